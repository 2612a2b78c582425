/- The interpreter of the translated code, and its proof: part B. -/
import Derived.Test.YtmnchlhngpdffaaGreatHxA
import Derived.Deep.Upon
import Derived.MapKept
import Derived.Laws.Strings
set_option linter.all false
open Array renaming getD_eq_getD_getElem? → bPc, getElem?_append → bRp, getElem?_eq_getElem → bPk, length_toList → bQ4, mapM_eq_mapM_toList → bSf, size_append → bRo
open Bool renaming and_eq_true → bOx, eq_iff_iff → bRd, false_eq_true → bO0
open Int renaming eq_ofNat_of_zero_le → bP2, toNat_natCast → bPz, toNat_of_nonneg → bSa
open List renaming all_cons → bQ7, all_eq_true → bO4, append_nil → bPx, cons_append → bRa, drop_eq_nil_iff → bR4, foldl_cons → bRm, foldl_nil → bRc, getD_cons_zero → bRt, getD_eq_getElem?_getD → bO2, getElem?_append → bRn, getElem?_append_left → bR3, getElem?_cons_succ → bR9, getElem?_drop → bR1, getElem?_eq_getElem → bP7, getElem?_eq_some_iff → bSe, getElem?_set → bRl, getElem_mem → bO6, isEmpty_iff → bRw, length_append → bPg, length_cons → bO7, length_drop → bRb, length_map → bOz, length_nil → bPe, length_pos_iff → bRv, length_set → bQ1, length_take → bQe, map_cons → bPw, map_nil → bPf, mem_cons → bP0, mem_cons_of_mem → bQz, mem_flatMap → bQa, nil_append → bP1, take_length → bQp, take_of_length_le → bPi, take_zero → bO3
open Nat renaming add_assoc → bQo, add_mul → bQj, add_zero → bQh, le_refl → bOy, le_trans → bPb, lt_of_lt_of_le → bPo, mul_le_mul_right → bP5, succ_mul → bQl, zero_add → bPs, zero_le → bO8
open Option renaming bind_eq_bind → bPj, bind_eq_some_iff → bO9, bind_some → bRq, getD_some → bPp, isSome_iff_exists → bQk, map_eq_some_iff → bPa, map_some → bPq, pure_def → bPl
open Option.some renaming injEq → bOw
open Prod.mk renaming injEq → bO1
namespace Go.Abs
open Go.RowKit (Below)
variable [Inhabited lX]
variable {T S:Nat->Nat->Prop}{k:IntKind}{n len off h l sz B N d:Nat}{e t:TypeId}{i x:Operand}{i' x' y':Opd}{j:Int}{xs cs:List Val}{rs:List R}{v:Val}{s:ByteArray}{ts:Array TypeId}{mx:Option Value}{y hi' lo':Option Opd}{call:bH}{hi lo:Option Operand}{r:Res}{G:Gh}{w:World}{P:Program}{Ξ:Env}{st:St}{a:Act}
section
variable {o:Oper}
theorem tQ {n:Int}{u:Value}(h:VR T G w (.int k n) u):u= .int k n:=by cases h;rfl
theorem aQo {X:Val}{x:Value}(hx:VR T G w X x)(h:sI X=some n): ∃a c,x= .slice a n c/\ n<=c:=by
 cases hx<;>simp only[sI,bOw,reduceCtorEq]at h
 ·simp at h;subst h;exact⟨_,_,rfl,bO8 _⟩
 ·subst h;exact⟨_,_,rfl,by assumption⟩
 ·simp at h;subst h;exact⟨_,_,rfl,bO8 _⟩
 ·subst h;exact⟨_,_,rfl,bOy _⟩
 ·subst h;exact⟨_,_,rfl,bO8 _⟩
 ·subst h;exact⟨_,_,rfl,by omega⟩
 ·subst h;exact⟨_,_,rfl,bO8 _⟩
 ·subst h;exact⟨_,_,rfl,bO8 _⟩
theorem aZl (hR:Rel P Ξ B S G st N a w){y:Val}(ho:o.op= .indexAddr t x i)(ht:P.underlying t=some (.slice e))(he:(P.info? e).isSome=true)
  (h1:aO x=some x') (h2:aO i=some i') (hi:St.get st.fr i'= .int k j) (hj:0<=j) (hX:St.get st.fr x'= .fz xs \/St.get st.fr x'= .cl xs) (hy:xs[j.toNat]?=some y) (hsz:y.cells.length=P.cellsOf e):
  eK P Ξ B S st N a w o d {v:= .fp y.cells 0}:=by
 have hx:=aU hR h1;have hi':=aU hR h2;rw[hi]at hi';have hi'':=tQ hi';obtain⟨ti,hti⟩:=bQk.1 he;obtain⟨hlt,hget⟩:=aD9 hy;have core: ∀b off sz cap (c:Nat->Nat->Value),a.eval x= .slice (some ⟨b,off,.none⟩) xs.length cap->(∀i,i<xs.length->(xs.getD i .dead).cells.length=sz)->
   (∀i j,i<xs.length->j<sz->w.cell? ⟨b,off+i*sz+j,.none⟩=some (c i j))->(∀i j,i<xs.length->j<sz->aX B S G w.heap.size b (off+i*sz+j))->
   (∀i j,i<xs.length->j<sz->fK (c i j)=true)->(∀i j,i<xs.length->j<sz->VR (aX B S G w.heap.size) Gh.none w ((xs.getD i .dead).cells.getD j .dead) (c i j))->
   eK P Ξ B S st N a w o d {v:= .fp y.cells 0}:=by
  intro b off sz cap c hx hs hc hT ho' hv;have hsz':sz=P.cellsOf e:=by rw[<-hsz,<-hget,hs _ hlt]
  have hl:(j:Int)<xs.length:=by omega
  refine bZ (x:= .pointer (some ⟨b,off+j.toNat*sz+0,.none⟩)) hR ?_ (.fp y.cells 0 b (off+j.toNat*sz) (c j.toNat) ?_ ?_ ?_ ?_)
  ·simp[execOp,ho,hx,hi'',Instr.indexAt,asIntOf,run_underlying ht,hj,hl,eE hti,rK,hsz']
  ·intro i hi;exact hc _ i hlt (by omega)
  ·intro i hi;exact hT _ i hlt (by omega)
  ·intro i hi;exact ho' _ i hlt (by omega)
  ·intro i hi;rw[<-hget];exact hv _ i hlt (by omega)
 generalize hg:a.eval x=u at hx;rcases hX with hX|hX<;>rw[hX]at hx<;>cases hx
 ·simp at hy
 ·exact core _ _ _ _ _ hg (by assumption) (by assumption) (by assumption) (by assumption) (by assumption)
 ·simp at hy
 ·exact core _ _ _ _ _ hg (by assumption) (by assumption) (by assumption) (by assumption) (by assumption)
theorem aZm (hR:Rel P Ξ B S G st N a w){key:Key}(ho:o.op= .indexAddr t x i)(ht:P.underlying t=some (.slice e))(he:(P.info? e).isSome=true)
  (h1:aO x=some x') (h2:aO i=some i') (hi:St.get st.fr i'= .int k j) (hj:0<=j/\ j<len) (hX:St.get st.fr x'= .bl key off len)
  {ys:List Val} {f:Bool} (hen:st.en key=some (.blk (P.cellsOf e) ys f)) :
  eK P Ξ B S st N a w o d {v:= .ep key (off+j.toNat) 0,rs:=rs}:=by
 have hx:=aU hR h1;have hi':=aU hR h2;rw[hi]at hi';have hi'':=tQ hi';obtain⟨ti,hti⟩:=bQk.1 he;generalize hg:a.eval x=u at hx;rw[hX]at hx;cases hx with
 |bl0 _ a h=>omega
 |ble=>omega
 |bl _ _ _ b base sz C hb hl=>
  have hsz':sz=P.cellsOf e:=by
   have hE:=hR.ents _ _ hen (Gh.knows_blk hb);cases hE with
   |nul _ _ hb'=>rw[hb]at hb';cases hb'
   |blk _ _ _ _ _ _ _ _ _ hb'=>rw[hb]at hb';simp only[bOw,bO1]at hb';exact hb'.2.2.1
   |full _ _ _ _ _ hb'=>rw[hb]at hb';simp only[bOw,bO1]at hb';exact hb'.2.2.1
  refine bZ (x:= .pointer (some ⟨b,base+(off+j.toNat)*sz+0,.none⟩)) hR ?_ (.ep _ _ _ b base sz C hb (by omega))
  rw[bQj];simp[execOp,ho,hg,hi'',Instr.indexAt,asIntOf,run_underlying ht,hj.1,hj.2,eE hti,rK,hsz',bQo]
theorem bF0 (hR:Rel P Ξ B S G st N a w)(ho:o.op= .indexAddr t x i)(ht:P.underlying t=some (.array n e))(he:(P.info? e).isSome=true)
  (h1:aO x=some x') (h2:aO i=some i') (hi:St.get st.fr i'= .int k j) (hj:0<=j/\ j<n) (hv:(match St.get st.fr x' with
    | .fp cs o=>some {v:= .fp cs (o+j.toNat*P.cellsOf e)}
    | .ptr k o=>some {v:= .ptr k (o+j.toNat*P.cellsOf e)}
    | .ep k i o=>some {v:= .ep k i (o+j.toNat*P.cellsOf e)}
    |_=>none)=some ({v:=v}:Res)):eK P Ξ B S st N a w o d {v:=v}:=by
 have hx:=aU hR h1;have hi':=aU hR h2;rw[hi]at hi';have hi'':=tQ hi';obtain⟨ti,hti⟩:=bQk.1 he;have run: ∀b off,a.eval x= .pointer (some ⟨b,off,.none⟩)->(execOp a.eval o).run P w= .ok (.value (.pointer (some ⟨b,off+j.toNat*P.cellsOf e,.none⟩))) w:=by
  intro b off hx;simp[execOp,ho,hx,hi'',Instr.indexAt,asIntOf,run_underlying ht,hj.1,hj.2,Instr.sureAddr,eE hti,rK]
 split at hv<;>simp only[bOw,Res.mk.injEq,reduceCtorEq,and_true]at hv<;>subst hv<;>rename_i he<;>rw[he]at hx
 ·generalize hg:a.eval x=u at hx;cases hx with
  |fp _ _ b base c hh ht ho' hv=>exact bZ hR (run _ _ hg) (by rw[bQo];exact .fp _ _ b base c hh ht ho' hv)
 ·generalize hg:a.eval x=u at hx;cases hx with
  |ptr _ _ b hb=>exact bZ hR (run _ _ hg) (.ptr _ _ b hb)
 ·generalize hg:a.eval x=u at hx;cases hx with
  |ep _ _ _ b base sz C hb hi=>exact bZ hR (run _ _ hg) (by rw[bQo];exact .ep _ _ _ b base sz C hb hi)
theorem bF1 (hR:Rel P Ξ B S G st N a w){b:UInt8}(ho:o.op= .index t x i)(ht:P.underlying t=some .string)
  (h1:aO x=some x') (h2:aO i=some i') (hi:St.get st.fr i'= .int k j) (hX:St.get st.fr x'= .str s) (hj:0<=j) (hb:s[j.toNat]?=some b):
  eK P Ξ B S st N a w o d {v:= .int .u8 b.toNat}:=by
 have hx:=aU hR h1;have hi':=aU hR h2;rw[hi]at hi';rw[hX]at hx;have hi'':=tQ hi';have hx':a.eval x= .string s:=by generalize a.eval x=u at hx;cases hx;rfl
 refine bZ (x:= .int .u8 b.toNat) hR ?_ (.int _ _)
 simp[execOp,ho,hx',hi'',Instr.index,asIntOf,run_underlying ht,hj,hb]
theorem bF2 (hR:Rel P Ξ B S G st N a w)(ho:o.op= .index t x i)(ht:P.underlying t=some (.array n e))(hu:(P.underlying e).isSome=true)
  (h1:aO x=some x') (h2:aO i=some i') (hi:St.get st.fr i'= .int k j) (hX:St.get st.fr x'= .agg cs) (hj:0<=j/\ j<n/\ j.toNat*P.cellsOf e+P.cellsOf e<=cs.length)
  (hv:iM (cZ P e) ((cs.drop (j.toNat*P.cellsOf e)).take (P.cellsOf e))=some v):eK P Ξ B S st N a w o d {v:=v}:=by
 have hx:=aU hR h1;have hi':=aU hR h2;rw[hi]at hi';rw[hX]at hx;have hi'':=tQ hi';generalize hgx:a.eval x=u at hx;cases hx with
 |agg _ us hus hou hvu=>
 obtain⟨e',he'⟩:=bQk.1 hu;obtain⟨ti,hti⟩:=lH he';have fin: ∀u,(part e us (j.toNat*P.cellsOf e)).run P w= .ok u w->VR (aX B S G w.heap.size) G w v u->eK P Ξ B S st N a w o d {v:=v}:=fun u h1 h2=>
  bZ hR (by simp[execOp,ho,hgx,hi'',Instr.index,asIntOf,run_underlying ht,hj.1,hj.2.1,eE hti,h1]) h2
 cases ha:cZ P e with
 |true=>
  rw[ha]at hv;simp only[iM,if_true,bOw]at hv;subst hv;obtain⟨u,h1,h2⟩:=aI2 (w:=w) (off:=j.toNat*P.cellsOf e) ha rfl hj.2.2 hus hou hvu;exact fin u h1 h2
 |false=>
  rw[ha]at hv;simp only[iM,bO0,if_false]at hv
  split at hv
  ·rename_i v' hv';simp only[bOw]at hv;subst hv;have hlen:((cs.drop (j.toNat*P.cellsOf e)).take (P.cellsOf e)).length=1:=by rw[hv'];rfl
   have hlt:j.toNat*P.cellsOf e<cs.length:=by simp at hlen;omega
   have h0:=rJ (cs:=cs) (off:=j.toNat*P.cellsOf e) (n:=P.cellsOf e) (j:=0) (by simp at hlen;omega) hj.2.2
   rw[hv']at h0;simp only[bQh,bRt]at h0;exact fin _ (aI3 ha (by omega) (by rw[he'];simp)) (by rw[h0];exact hvu _ hlt)
  ·cases hv
theorem aMr (hR:Rel P Ξ B S G st N a w){mx:Bool}{y:Operand}{m n:Int}(ho:o.op= .call {callee:= .builtin (if mx then .max else .min),args:= #[x,y],argTypes:=ts})
  (h1:aO x=some x') (h2:aO y=some y') (hX:St.get st.fr x'= .int k m) (hY:St.get st.fr y'= .int k n):
  eK P Ξ B S st N a w o d {v:= .int k (if mx then(if n>m then n else m)else(if n<m then n else m))}:=by
 have hx:=aU hR h1;have hy:=aU hR h2;rw[hX]at hx;rw[hY]at hy;have hx':=tQ hx;have hy':=tQ hy
 refine bZ (x:= .int k (if mx then(if n>m then n else m)else(if n<m then n else m))) hR ?_ (.int _ _)
 cases mx
 ·simp[execOp,ho,resolve,invoke,builtin,Builtin.min_,Builtin.min2,hx',hy']
 ·simp[execOp,ho,resolve,invoke,builtin,Builtin.max_,Builtin.max2,hx',hy']
theorem aG4 {z:Val}(h:tL P t=some z): ∃i v,P.info? t=some i/\ i.zero=some v/\ VR T G w z v:=by
 unfold tL at h
 split at h
 ·rename_i cs hz;obtain⟨i,hi,hz⟩:=bO9.1 hz
  split at h
  ·simp only[bPa]at h;obtain⟨zs,hzs,rfl⟩:=h;obtain⟨h1,h2⟩:=eR hzs;simp only[bQ4]at h1;have h3: ∀j (hj:j<zs.length),zV (cs.getD j undef)=some (zs.getD j .dead):=fun j hj=>by
    have:=h2 j (by simpa using(by omega:j<cs.size)) hj
    simpa[bO2,bPc,hj,show j<cs.size by omega]using this
   exact⟨i,_,hi,hz,.agg zs cs h1.symm (fun j hj=>(nL (G:=G) (w:=w) (T:=T) (h3 j hj)).2) (fun j hj=>(nL (h3 j hj)).1)⟩
  ·cases h
 ·rename_i v _ hz;obtain⟨i,hi,hz⟩:=bO9.1 hz
  split at h
  ·cases h
  ·exact⟨i,v,hi,hz,(nL h).1⟩
 ·cases h
theorem VR.tup2 {u:Val}{x y:Value}(hu:VR T G w u x)(hv:VR T G w v y):VR T G w (.tup [u,v]) (.tuple #[x,y]):=by
 refine .tup _ _ rfl (fun i hi=>?_)
 match i,hi with
 |0,_=>exact hu
 |1,_=>exact hv
theorem aW3 (hR:Rel P Ξ B S G st N a w){xt:TypeId}{ok:Bool}{z:Val}(ho:o.op= .typeAssert x xt t ok)(hu:(P.underlying t).isSome=true)(hu': ∀ms,P.underlying t≠some (.interface ms))(hz:tL P t=some z)
  (h1:aO x=some x') (hv:(match St.get st.fr x' with
   | .ifc t' v=>if t'=t then some {v:=if ok then .tup [v,.bool true]else v}else if ok then some {v:= .tup [z,.bool false]}else none
   | .nili=>if ok then some {v:= .tup [z,.bool false]}else none
   |_=>none)=some ({v:=v}:Res)):eK P Ξ B S st N a w o d {v:=v}:=by
 have hx:=aU hR h1;obtain⟨e,he⟩:=bQk.1 hu;obtain⟨i,zv,hi,hzv,hvz⟩:=aG4 (P:=P) (G:=G) (w:=w) (T:=aX B S G w.heap.size) hz;generalize hg:a.eval x=u at hx;have nil:ok=true->u= .nilIface->eK P Ξ B S st N a w o d {v:= .tup [z,.bool false]}:=by
  rintro rfl rfl
  refine bZ (x:= .tuple #[zv,.bool false]) hR ?_ (hvz.tup2 (.bool _))
  simp only[execOp,ho,hg,Instr.typeAssert,Sem.run_bind,run_underlying he,Result.andThen_ok];cases e<;>first|exact absurd he (hu' _)|simp[gH hi hzv]
 split at hv
 ·rename_i t' v' he';rw[he']at hx;cases hx with
  |ifc _ _ y hy=>
  split at hv
  ·rename_i ht;subst ht;simp only[bOw,Res.mk.injEq,and_true]at hv;subst hv
   refine bZ (x:=if ok then .tuple #[y,.bool true]else y) hR ?_ (by cases ok;exact hy;exact hy.tup2 (.bool _))
   simp only[execOp,ho,hg,Instr.typeAssert,Sem.run_bind,run_underlying he,Result.andThen_ok];cases e<;>first|exact absurd he (hu' _)|(cases ok<;>simp)
  ·rename_i ht
   split at hv
   ·rename_i hok;simp only[bOw,Res.mk.injEq,and_true]at hv;subst hv;subst hok
    refine bZ (x:= .tuple #[zv,.bool false]) hR ?_ (hvz.tup2 (.bool _))
    simp only[execOp,ho,hg,Instr.typeAssert,Sem.run_bind,run_underlying he,Result.andThen_ok];cases e<;>first|exact absurd he (hu' _)|simp[ht,gH hi hzv]
   ·cases hv
 ·rename_i he';rw[he']at hx
  split at hv
  ·rename_i hok;simp only[bOw,Res.mk.injEq,and_true]at hv;subst hv;exact nil hok (by cases hx;rfl)
  ·cases hv
 ·cases hv
theorem aOg (hR:Rel P Ξ B S G st N a w)(ho:o.op= .call {callee:= .builtin .len,args:= #[x],argTypes:=ts})(ht:ts[0]?=some t)
  (hu:P.underlying t=some (.slice e)) (h1:aO x=some x') (hl:sI (St.get st.fr x')=some n):eK P Ξ B S st N a w o d {v:= .int .i64 n}:=by
 obtain⟨p,c,hp,_⟩:=aQo (aU hR h1) hl
 refine bZ (x:= .int .i64 n) hR ?_ (.int _ _)
 simp[execOp,ho,resolve,invoke,builtin,Builtin.len_,ht,run_underlying hu,hp,goInt]
theorem aTz (hR:Rel P Ξ B S G st N a w)(ho:o.op= .call {callee:= .builtin .len,args:= #[x],argTypes:=ts})(ht:ts[0]?=some t)
  (hu:P.underlying t=some .string) (h1:aO x=some x') (hl:St.get st.fr x'= .str s):eK P Ξ B S st N a w o d {v:= .int .i64 s.size}:=by
 have hx:=aU hR h1;rw[hl]at hx;have:a.eval x= .string s:=by generalize a.eval x=u at hx;cases hx;rfl
 refine bZ (x:= .int .i64 s.size) hR ?_ (.int _ _)
 simp[execOp,ho,resolve,invoke,builtin,Builtin.len_,ht,run_underlying hu,this,goInt]
def gV (v:Option Value)(dflt n:Nat):Prop:=
 match v with
 |none=>n=dflt
 |some x=> ∃k,x= .int k n
theorem zZ {v:Option Val}{x:Option Value}{dflt top:Nat}(h:iS v dflt top=some n)(hv: ∀u,v=some u-> ∃y,x=some y/\ VR T G w u y)(hn:v=none->x=none):
  gV x dflt n/\ (n<=top \/x=none):=by
 unfold iS at h
 split at h
 ·rw[hn rfl];simp only[bOw]at h;exact⟨h.symm,.inr rfl⟩
 ·rename_i k i
  split at h
  ·rename_i hi;simp only[bOw]at h;subst h;obtain⟨y,hy,hv⟩:=hv _ rfl;rw[hy,tQ hv];exact⟨⟨k,by rw[bSa hi.1]⟩,.inl (by omega)⟩
  ·cases h
 ·cases h
theorem wT {p:Option Addr}{cap:Nat}{lo hi:Option Value}{m:Nat}(ht:P.underlying t=some (.slice e))(he:(P.info? e).isSome=true)
  (hm:gV mx cap m) (hm':m<=cap) (hh:gV hi len h) (hh':h<=m) (hmh:mx≠none->hi≠none) (hl:gV lo 0 l) (hl':l<=h):
  (Instr.sliceAt t (.slice p len cap) lo hi mx).run P w= .ok (.slice (if m=l then p else p.map (·.add (l*P.cellsOf e))) (h-l) (m-l)) w:=by
 obtain⟨ti,hti⟩:=bQk.1 he;have sb: ∀{k:IntKind} {n top:Nat} {c:BoundsCode},n<=top->(Instr.sliceBound (.int k n) top c).run P w= .ok n w:=by
  intro k n top c hle;simp[Instr.sliceBound,asIntOf,hle]
 simp only[Instr.sliceAt,Sem.run_bind,run_underlying ht,Result.andThen_ok,Instr.slice,Instr.sliceBounds];cases mx with
 |none=>
  simp only[gV]at hm;subst hm;cases hi with
  |none=>
   simp only[gV]at hh;subst hh;cases lo with
   |none=>simp only[gV]at hl;subst hl;simp[eE hti]
   |some lv=>obtain⟨k,rfl⟩:=hl;simp[eE hti,sb hl']
  |some hv=>
   obtain⟨kh,rfl⟩:=hh;cases lo with
   |none=>simp only[gV]at hl;subst hl;simp[eE hti,sb hh']
   |some lv=>obtain⟨k,rfl⟩:=hl;simp[eE hti,sb hl',sb hh']
 |some mv=>
  obtain⟨km,rfl⟩:=hm;cases hi with
  |none=>exact absurd rfl (hmh (by simp))
  |some hv=>
   obtain⟨kh,rfl⟩:=hh;cases lo with
   |none=>simp only[gV]at hl;subst hl;simp[eE hti,sb hh',sb hm']
   |some lv=>obtain⟨k,rfl⟩:=hl;simp[eE hti,sb hl',sb hh',sb hm']
theorem VR.part {b:Nat}{c:Nat->Nat->Value}(hs: ∀i,i<xs.length->(xs.getD i .dead).cells.length=sz)
  (hc: ∀i j,i<xs.length->j<sz->w.cell? ⟨b,off+i*sz+j,.none⟩=some (c i j)) (ht: ∀i j,i<xs.length->j<sz->T b (off+i*sz+j)) (ho: ∀i j,i<xs.length->j<sz->fK (c i j)=true)
  (hv: ∀i j,i<xs.length->j<sz->VR T Gh.none w ((xs.getD i .dead).cells.getD j .dead) (c i j))  (hl:l<=h) (hh:h<=xs.length):
  (∀cap,h-l<=cap->VR T G w (.fz ((xs.take h).drop l)) (.slice (some ⟨b,off+l*sz,.none⟩) (h-l) cap))/\ VR T G w (.cl ((xs.take h).drop l)) (.slice (some ⟨b,off+l*sz,.none⟩) (h-l) (h-l)):=by
 have hlen:((xs.take h).drop l).length=h-l:=by simp;omega
 have hget: ∀i,i<h-l->((xs.take h).drop l).getD i .dead=xs.getD (l+i) .dead:=by
  intro i hi;simp only[bO2,bR1,List.getElem?_take,show l+i<h by omega,if_true]
 have hoff: ∀i j,off+l*sz+i*sz+j=off+(l+i)*sz+j:=fun i j=>by rw[bQj];omega
 have s1: ∀i,i<((xs.take h).drop l).length->(((xs.take h).drop l).getD i .dead).cells.length=sz:=fun i hi=>by rw[hlen]at hi;rw[hget i hi];exact hs _ (by omega)
 have s2: ∀i j,i<((xs.take h).drop l).length->j<sz->w.cell? ⟨b,off+l*sz+i*sz+j,.none⟩=some (c (l+i) j):=fun i j hi hj=>by rw[hlen]at hi;rw[hoff];exact hc _ _ (by omega) hj
 have s3: ∀i j,i<((xs.take h).drop l).length->j<sz->T b (off+l*sz+i*sz+j):=fun i j hi hj=>by rw[hlen]at hi;rw[hoff];exact ht _ _ (by omega) hj
 have s4: ∀i j,i<((xs.take h).drop l).length->j<sz->fK (c (l+i) j)=true:=fun i j hi hj=>by rw[hlen]at hi;exact ho _ _ (by omega) hj
 have s5: ∀i j,i<((xs.take h).drop l).length->j<sz->VR T Gh.none w ((((xs.take h).drop l).getD i .dead).cells.getD j .dead) (c (l+i) j):=fun i j hi hj=>by rw[hlen]at hi;rw[hget i hi];exact hv _ _ (by omega) hj
 refine⟨fun cap hcap=>?_,?_⟩
 ·have:=VR.fz (G:=G) ((xs.take h).drop l) b (off+l*sz) sz cap (fun i j=>c (l+i) j) (by rw[hlen];exact hcap) s1 s2 s3 s4 s5
  rwa [hlen]at this
 ·have:=VR.cl (G:=G) ((xs.take h).drop l) b (off+l*sz) sz (fun i j=>c (l+i) j) s1 s2 s3 s4 s5
  rwa [hlen]at this
theorem xW {size:Nat}(hs: ∀i,i<xs.length->(xs.getD i .dead).cells.length=sz)(h:cY size xs=true):xs=[] \/sz=size:=by
 cases xs with
 |nil=>exact .inl rfl
 |cons y ys=>
  have:=hs 0 (by simp)
  simp[cY]at h
  simp at this
  exact .inr (this.symm.trans h)
theorem wU {x:Option Operand}(h:oT x=some y):y.map (St.get st.fr)=none->x.map a.eval=none:=by
 cases x<;>simp[oT]at h<;>intro hn
 ·rfl
 ·obtain⟨z,_,rfl⟩:=h;simp at hn
theorem wV (hR:Rel P Ξ B S G st N a w){x:Option Operand}(h:oT x=some y): ∀u,y.map (St.get st.fr)=some u-> ∃z,x.map a.eval=some z/\ VR (aX B S G w.heap.size) G w u z:=by
 intro u hu;cases x with
 |none=>simp[oT]at h;subst h;simp at hu
 |some x=>
  simp only[oT,bPa]at h;obtain⟨z,hz,rfl⟩:=h
  simp at hu;subst hu
  exact⟨_,rfl,aU hR hz⟩
inductive Fro (T:Nat->Nat->Prop) (w:World) (xs:List Val) (clip:Bool):Value->Prop
 |nil (p:Option Addr) (cap:Nat) (h:xs=[]) (hc:clip=true->cap=0):Fro T w xs clip (.slice p 0 cap)
 |some (b off sz cap:Nat) (c:Nat->Nat->Value) (hc:xs.length<=cap) (hcl:clip=true->cap=xs.length) (hs: ∀i,i<xs.length->(xs.getD i .dead).cells.length=sz)
   (h: ∀i j,i<xs.length->j<sz->w.cell? ⟨b,off+i*sz+j,.none⟩= .some (c i j)) (ht: ∀i j,i<xs.length->j<sz->T b (off+i*sz+j)) (ho: ∀i j,i<xs.length->j<sz->fK (c i j)=true)
   (hv: ∀i j,i<xs.length->j<sz->VR T Gh.none w ((xs.getD i .dead).cells.getD j .dead) (c i j)):Fro T w xs clip (.slice (.some ⟨b,off,.none⟩) xs.length cap)
theorem aT0 {x:Value}(h:VR T G w (.fz xs) x):Fro T w xs false x:=by
 cases h with
 |fz0 p cap=>exact .nil p cap rfl (by simp)
 |fz _ b off sz cap c hc hs h ht ho hv=>exact .some b off sz cap c hc (by simp) hs h ht ho hv
theorem aI9 {x:Value}(h:VR T G w (.cl xs) x):Fro T w xs true x:=by
 cases h with
 |cl0 p=>exact .nil p 0 rfl (by simp)
 |cl _ b off sz c hs h ht ho hv=>exact .some b off sz _ c (bOy _) (by simp) hs h ht ho hv
theorem aMs {clip:Bool}{x:Value}{lo hi:Option Value}(ht:P.underlying t=some (.slice e))(he:(P.info? e).isSome=true)(hx:Fro T w xs clip x)
  (hh:gV hi xs.length h) (hh':h<=xs.length) (hl:gV lo 0 l) (hl':l<=h) (hsz:l=0 \/cY (P.cellsOf e) xs=true):
  (mx=none-> ∃y,(Instr.sliceAt t x lo hi mx).run P w= .ok y w/\ VR T G w (.fz ((xs.take h).drop l)) y/\ (clip=true->h=xs.length->VR T G w (.cl ((xs.take h).drop l)) y))/\
  (∀m,m<=xs.length->h<=m->gV mx 0 m->mx≠none->hi≠none-> ∃y,(Instr.sliceAt t x lo hi mx).run P w= .ok y w/\ VR T G w (.fz ((xs.take h).drop l)) y/\ (m=h->VR T G w (.cl ((xs.take h).drop l)) y)):=by
 cases hx with
 |nil p cap hn hc=>
  subst hn
  simp at hh';subst hh';simp at hl';subst hl'
  refine⟨fun hmx=>?_,fun m hm hm' hmb hmx hhi=>?_⟩
  ·subst hmx
   refine⟨_,wT ht he (m:=cap) rfl (bOy _) hh (bO8 _) (by simp) hl (bOy _),?_,fun hcl _=>?_⟩
   ·simp only[bO3,List.drop_nil,Nat.sub_zero];exact .fz0 _ _
   ·rw[hc hcl];simp only[bO3,List.drop_nil,if_true];exact .cl0 _
  ·simp at hm;subst hm
   have hmb':gV mx cap 0:=by
    cases mx with
    |none=>exact absurd rfl hmx
    |some mv=>exact hmb
   refine⟨_,wT ht he hmb' (bO8 _) hh (bOy _) (fun _=>hhi) hl (bOy _),?_,fun _=>?_⟩
   ·simp only[bO3,List.drop_nil,if_true];exact .fz0 _ _
   ·simp only[bO3,List.drop_nil,if_true];exact .cl0 _
 |some b off sz cap c hc hcl hs hcell hT ho hv=>
  have hmul:l*P.cellsOf e=l*sz \/xs=[]:=by
   rcases hsz with rfl|hsz
   ·simp
   ·rcases xW hs hsz with h0|h0
    ·exact .inr h0
    ·subst h0;exact .inl rfl
  obtain⟨p1,p2⟩:=VR.part (G:=G) hs hcell hT ho hv hl' hh';have hempty: ∀m,m=l->h<=m->(xs.take h).drop l=[]:=fun m hm hm'=>by
   apply List.drop_eq_nil_of_le;simp;omega
  have fin: ∀m,h<=m->(VR T G w (.fz ((xs.take h).drop l)) (.slice (if m=l then some ⟨b,off,.none⟩else(some (⟨b,off,.none⟩:Addr)).map (·.add (l*P.cellsOf e))) (h-l) (m-l)))/\
    (m=h->VR T G w (.cl ((xs.take h).drop l)) (.slice (if m=l then some ⟨b,off,.none⟩else(some (⟨b,off,.none⟩:Addr)).map (·.add (l*P.cellsOf e))) (h-l) (m-l))):=by
   intro m hm
   by_cases hml:m=l
   ·have h0:h-l=0:=by omega
    rw[hempty m hml hm,h0];exact⟨.fz0 _ _,fun e=>by rw[show m-l=0 by omega];exact .cl0 _⟩
   ·rw[if_neg hml,bPq,rK];rcases hmul with hmul|hnil
    ·rw[hmul];exact⟨p1 _ (by omega),fun e=>by subst e;exact p2⟩
    ·subst hnil
     simp at hh';subst hh';simp at hl';subst hl'
     simp only[bO3,List.drop_nil,Nat.sub_zero];exact⟨.fz0 _ _,fun e=>by subst e;exact .cl0 _⟩
  refine⟨fun hmx=>?_,fun m hm hm' hmb hmx hhi=>?_⟩
  ·subst hmx;obtain⟨f1,f2⟩:=fin cap (by omega)
   exact⟨_,wT ht he (m:=cap) rfl (bOy _) hh (by omega) (by simp) hl hl',f1,fun hcl' hlen=>f2 (by rw[hcl hcl',hlen])⟩
  ·have hmb':gV mx cap m:=by
    cases mx with
    |none=>exact absurd rfl hmx
    |some mv=>exact hmb
   obtain⟨f1,f2⟩:=fin m hm';exact⟨_,wT ht he hmb' (by omega) hh hm' (fun _=>hhi) hl hl',f1,f2⟩
theorem aZn (hR:Rel P Ξ B S G st N a w){mx:Option Operand}{mx':Option Opd}(ho:o.op= .slice t x lo hi mx)(ht:P.underlying t=some (.slice e))(he:(P.info? e).isSome=true)
  (h1:aO x=some x') (h2:oT lo=some lo') (h3:oT hi=some hi') (h4:oT mx=some mx')  
  (hv:eval n call 0 d (st.cnt 0 d) st.en (St.get st.fr) (.slice false (P.cellsOf e) x' lo' hi' mx')=some r):eK P Ξ B S st N a w o d r:=by
 have hx:=aU hR h1;have bl: ∀{dflt top n:Nat},iS (lo'.map (St.get st.fr)) dflt top=some n->gV (lo.map a.eval) dflt n:=fun h=>(zZ h (wV hR h2) (wU h2)).1
 have bh: ∀{dflt top n:Nat},iS (hi'.map (St.get st.fr)) dflt top=some n->gV (hi.map a.eval) dflt n:=fun h=>(zZ h (wV hR h3) (wU h3)).1
 have le_of: ∀{v:Option Val} {dflt top n:Nat},iS v dflt top=some n->dflt<=top->n<=top:=by
  intro v dflt top n h hd;unfold iS at h
  split at h
  ·simp at h;omega
  ·split at h
   ·simp at h;omega
   ·cases h
  ·cases h
 have run: ∀{y:Value},(Instr.sliceAt t (a.eval x) (lo.map a.eval) (hi.map a.eval) (mx.map a.eval)).run P w= .ok y w->(execOp a.eval o).run P w= .ok (.value y) w:=fun h=>by
  simp only[execOp,ho,Sem.run_bind,h,Result.andThen_ok,Sem.run_pure]
 have two: ∀{xs:List Val} {clip:Bool} {l h:Nat},Fro (aX B S G w.heap.size) w xs clip (a.eval x)->mx'=none->iS (hi'.map (St.get st.fr)) xs.length xs.length=some h->iS (lo'.map (St.get st.fr)) 0 h=some l->
   (l=0 \/cY (P.cellsOf e) xs=true)->eK P Ξ B S st N a w o d {v:= .fz ((xs.take h).drop l)}/\ (clip=true->h=xs.length->eK P Ξ B S st N a w o d {v:= .cl ((xs.take h).drop l)}):=by
  intro xs clip l h hf hm hb1 hb2 hsz;obtain⟨y,hy,v1,v2⟩:=(aMs (G:=G) ht he hf (bh hb1) (le_of hb1 (bOy _)) (bl hb2) (le_of hb2 (bO8 _)) hsz).1 (wU (st:=st) h4 (by rw[hm];rfl))
  exact⟨bZ hR (run hy) v1,fun hc hl=>bZ hR (run hy) (v2 hc hl)⟩
 have three: ∀{xs:List Val} {clip:Bool} {u:Opd} {r:Res},Fro (aX B S G w.heap.size) w xs clip (a.eval x)->mx'=some u->
   aIw (P.cellsOf e) xs (lo'.map (St.get st.fr)) (hi'.map (St.get st.fr)) (St.get st.fr u)=some r->eK P Ξ B S st N a w o d r:=by
  intro xs clip u r hf hm h;unfold aIw at h
  split at h
  ·rename_i m hbm
   split at h
   ·cases h
   ·rename_i hi0 hhi
    split at h
    ·rename_i hh hb1
     split at h
     ·rename_i l hb2
      split at h
      ·rename_i hsz;simp only[bOw]at h;subst h;have hm2:=wV hR h4 (St.get st.fr u) (by rw[hm];rfl)
       obtain⟨mv,hmv,hvr⟩:=hm2;obtain⟨hmb,_⟩:=zZ (x:=mx.map a.eval) hbm (fun z hz=>by simp at hz;subst hz;exact⟨mv,hmv,hvr⟩) (by simp)
       have hi1:=wV hR h3 hi0 hhi;obtain⟨hiv,hiv',_⟩:=hi1;have hbh:gV (hi.map a.eval) xs.length hh:=by
        have:=bh hb1;rw[hiv']at this⊢;exact this
       obtain⟨y,hy,v1,v2⟩:=(aMs (G:=G) ht he hf hbh (by have:=le_of hb1 (bO8 _);have:=le_of hbm (bO8 _);omega) (bl hb2) (le_of hb2 (bO8 _)) hsz).2 m (le_of hbm (bO8 _)) (le_of hb1 (bO8 _)) hmb (by rw[hmv];simp) (by rw[hiv'];simp)
       by_cases hmh:m=hh
       ·rw[if_pos hmh];exact bZ hR (run hy) (v2 hmh)
       ·rw[if_neg hmh];exact bZ hR (run hy) v1
      ·cases h
     ·cases h
    ·cases h
  ·cases h
 simp only[eval,bO0,if_false]at hv
 split at hv
 ·rename_i xs hX;rw[hX]at hx
  split at hv
  ·split at hv
   ·rename_i h hb1
    split at hv
    ·rename_i l hb2
     split at hv
     ·rename_i hsz;simp only[bOw]at hv;subst hv;exact(two (aT0 hx) rfl hb1 hb2 hsz).1
     ·cases hv
    ·cases hv
   ·cases hv
  ·exact three (aT0 hx) rfl hv
 ·rename_i xs hX;rw[hX]at hx
  split at hv
  ·split at hv
   ·rename_i h hb1
    split at hv
    ·rename_i l hb2
     split at hv
     ·rename_i hsz;simp only[bOw]at hv;subst hv;obtain⟨t1,t2⟩:=two (aI9 hx) rfl hb1 hb2 hsz
      by_cases hlen:h=xs.length
      ·rw[if_pos hlen];have:=t2 rfl hlen
       rwa [hlen,bQp]at this
      ·rw[if_neg hlen];exact t1
     ·cases hv
    ·cases hv
   ·cases hv
  ·exact three (aI9 hx) rfl hv
 ·rename_i k off len hX;rw[hX]at hx
  split at hv
  ·split at hv
   ·rename_i h hb1
    split at hv
    ·rename_i l hb2
     split at hv
     ·rename_i sz ys f hen
      split at hv
      ·rename_i hsz;simp only[bOw]at hv;subst hv;have hh:=le_of hb1 (bOy _);have hl:=le_of hb2 (bO8 _);have hmx:mx.map a.eval=none:=wU (st:=st) h4 rfl;generalize hg:a.eval x=u at hx;have run': ∀{p:Option Addr} {cap:Nat},u= .slice p len cap->len<=cap->(execOp a.eval o).run P w= .ok (.value (.slice (if cap=l then p else p.map (·.add (l*P.cellsOf e))) (h-l) (cap-l))) w:=by
        intro p cap hu hc
        refine run ?_
        rw[hg,hu];exact wT ht he (m:=cap) (by rw[hmx];rfl) (bOy _) (bh hb1) (by omega) (by rw[hmx];simp) (bl hb2) hl
       cases hx with
       |bl0 _ p hb=>
        simp at hh;subst hh;simp at hl;subst hl
        exact bZ hR (run' rfl (bOy _)) (by simp only[Nat.sub_zero,bQh];exact .bl0 _ _ hb)
       |ble _ p b base sz' C hb=>
        simp at hh;subst hh;simp at hl;subst hl
        exact bZ hR (run' rfl (bOy _)) (by simp only[Nat.sub_zero,bQh];exact .ble _ _ _ _ _ _ hb)
       |bl _ _ _ b base sz' C hb hC=>
        have hsz':sz'=sz:=by
         have hE:=hR.ents _ _ hen (Gh.knows_blk hb);cases hE with
         |nul _ _ hb'=>rw[hb]at hb';cases hb'
         |blk _ _ _ _ _ _ _ _ _ hb'=>rw[hb]at hb';simp only[bOw,bO1]at hb';exact hb'.2.2.1
         |full _ _ _ _ _ hb'=>rw[hb]at hb';simp only[bOw,bO1]at hb';exact hb'.2.2.1
        subst hsz'
        refine bZ hR (run' rfl (by omega)) ?_
        by_cases hcl:C-off=l
        ·rw[if_pos hcl,show h-l=0 by omega,show C-off-l=0 by omega,show off+l=C by omega]
         exact .ble _ _ b base _ C hb
        ·rw[if_neg hcl,bPq,rK];have hadr:base+off*sz'+l*P.cellsOf e=base+(off+l)*sz':=by
          rcases hsz with rfl|rfl
          ·simp
          ·rw[bQj];omega
         rw[hadr,show C-off-l=C-(off+l)by omega]
         exact .bl _ _ _ b base _ C hb (by omega)
      ·cases hv
     ·cases hv
    ·cases hv
   ·cases hv
  ·cases hv
 ·cases hv
theorem aOh (hR:Rel P Ξ B S G st N a w)(ho:o.op= .slice t x lo hi none)(ht:P.underlying t=some .string)
  (h1:aO x=some x') (h2:oT lo=some lo') (h3:oT hi=some hi')  
  (hv:eval n call 0 d (st.cnt 0 d) st.en (St.get st.fr) (.slice true 1 x' lo' hi' none)=some r):eK P Ξ B S st N a w o d r:=by
 have hx:=aU hR h1;simp only[eval,if_true,Option.map_none]at hv;generalize hg:a.eval x=u at hx
 split at hv
 case h_2=>cases hv
 rename_i s hX _;rw[hX]at hx;cases hx with
 |str=>
 split at hv
 case h_2=>cases hv
 rename_i h hb1;obtain⟨l,hb2,rfl⟩:=bPa.1 hv;obtain⟨bh,lh⟩:=zZ hb1 (wV hR h3) (wU h3);obtain⟨bl,ll⟩:=zZ hb2 (wV hR h2) (wU h2);have sb: ∀{k:IntKind} {n top:Nat} {c:BoundsCode},n<=top->(Instr.sliceBound (.int k n) top c).run P w= .ok n w:=by
  intro k n top c hle;simp[Instr.sliceBound,asIntOf,hle]
 have hh:h<=s.size:=by
  rcases lh with h0|h0
  ·exact h0
  ·rw[h0]at bh;simp only[gV]at bh;omega
 have hl:l<=h:=by
  rcases ll with h0|h0
  ·exact h0
  ·rw[h0]at bl;simp only[gV]at bl;omega
 refine bZ (x:= .string (s.extract l h)) hR ?_ (.str _)
 have run:(Instr.sliceAt t (.string s) (lo.map a.eval) (hi.map a.eval) none).run P w= .ok (.string (s.extract l h)) w:=by
  simp only[Instr.sliceAt,Sem.run_bind,run_underlying ht,Result.andThen_ok,Instr.slice,Instr.sliceBounds];generalize hi.map a.eval=hiv at bh;generalize lo.map a.eval=lov at bl;cases hiv with
  |none=>
   simp only[gV]at bh;subst bh;cases lov with
   |none=>simp only[gV]at bl;subst bl;simp
   |some lv=>obtain⟨k,rfl⟩:=bl;simp[sb hl]
  |some hv=>
   obtain⟨kh,rfl⟩:=bh;cases lov with
   |none=>simp only[gV]at bl;subst bl;simp[sb hh]
   |some lv=>obtain⟨k,rfl⟩:=bl;simp[sb hl,sb hh]
 simp[execOp,ho,hg,run]
end
structure CR (T:Nat->Nat->Prop) (G:Gh) (w:World) (cs:List Val) (us:Array Value):Prop where
 size:us.size=cs.length
 one: ∀i,i<cs.length->fK (us.getD i undef)=true
 vr: ∀i,i<cs.length->VR T G w (cs.getD i .dead) (us.getD i undef)
theorem oO : ∀(vs:List Val) (cs:List Val) (off:Nat),(setCells cs off vs).length=cs.length
 |[],_,_=>rfl
 |v::vs,cs,off=>by rw[setCells,oO];simp
theorem xX : ∀(vs:List Val) (cs:List Val) (off i:Nat),off+vs.length<=cs.length->(setCells cs off vs)[i]?=if off<=i/\ i<off+vs.length then vs[i-off]? else cs[i]?
 |[],cs,off,i,_=>by simp[setCells];omega
 |v::vs,cs,off,i,h=>by
  simp only[bO7]at h;rw[setCells,xX vs _ _ _ (by simp;omega)]
  by_cases h1:off+1<=i/\ i<off+1+vs.length
  ·rw[if_pos h1,if_pos (by simp;omega),show i-off=(i-(off+1))+1 by omega,bR9]
  ·rw[if_neg h1]
   by_cases h2:i=off
   ·subst h2;rw[if_pos (by simp)];simp[bRl,show i<cs.length by omega]
   ·have h3: ¬off=i:=fun e=>h2 e.symm
    rw[if_neg (by simp;omega)];simp[bRl,h3]
theorem CR.set {vs:List Val}{us xs:Array Value}(h:CR T G w cs us)(hv:CR T G w vs xs)(hl:off+vs.length<=cs.length):
  CR T G w (setCells cs off vs) (wr us off xs.toList):=by
 have e1: ∀i,i<cs.length->(setCells cs off vs).getD i .dead=if off<=i/\ i<off+vs.length then vs.getD (i-off) .dead else cs.getD i .dead:=by
  intro i hi;simp only[bO2,xX vs cs off i hl]
  split<;>rfl
 have e2: ∀i,i<cs.length->(wr us off xs.toList).getD i undef=if off<=i/\ i<off+vs.length then xs.getD (i-off) undef else us.getD i undef:=by
  intro i hi;have hx:xs.toList.length=vs.length:=by simp[hv.size]
  simp only[bPc,aC3 xs.toList us off i (by rw[hx,h.size];exact hl),hx]
  split<;>simp
 refine⟨by rw[aD7,oO,h.size],fun i hi=>?_,fun i hi=>?_⟩<;>rw[oO]at hi
 ·rw[e2 i hi];split
  ·exact hv.one _ (by omega)
  ·exact h.one _ hi
 ·rw[e1 i hi,e2 i hi];split
  ·exact hv.vr _ (by omega)
  ·exact h.vr _ hi
theorem aOi : ∀(l:List Value) (k off:Nat) (c:Array Value),(l.zipIdx k).foldl (fun(cs:Array Value) (p:Value×Nat)=>cs.setIfInBounds (off+p.2) p.1) c=wr c (off+k) l
 |[],_,_,_=>rfl
 |v::l,k,off,c=>by
  simp only[List.zipIdx_cons,bRm,wr];rw[aOi l (k+1) off];rfl
variable {z:List Val}{parts:Array (Nat×Operand)}{ps:List (Nat×Nat×Opd)}
section
variable {o:Oper}
theorem VR.cr {x:Value}(h:VR T G w v x)(h1:v.one=true):CR T G w v.cells x.cells:=
 let ⟨a,b,c⟩:=h.cells (fun vs e=>by rw[e]at h1;cases h1)
 ⟨a,b,c⟩
theorem aC5 {T:Nat->Nat->Prop}{place:Nat->Option (Nat×Nat)}: ∀(ps:List (Nat×Value)) (qs:List (Nat×Nat×Val)) (cs:List Val) (us:Array Value) (r:List Val),qs.length=ps.length->
  (∀i (h:i<ps.length) (h':i<qs.length),place ps[i].1=some (qs[i].1,qs[i].2.1)/\ VR T G w qs[i].2.2 ps[i].2)->CR T G w cs us->sC cs qs=some r-> ∃us',Instr.fill place us ps=some us'/\ CR T G w r us'
 |[],[],cs,us,r,_,_,hc,h=>by simp only[sC,bOw]at h;subst h;exact⟨us,rfl,hc⟩
 |[],_::_,_,_,_,h,_,_,_=>by simp at h
 |_::_,[],_,_,_,h,_,_,_=>by simp at h
 |(i,x)::ps,(off,size,v)::qs,cs,us,r,hl,hp,hc,h=>by
  simp only[sC]at h
  split at h
  ·rename_i hcond;obtain⟨hp0,hv0⟩:=hp 0 (by simp) (by simp)
   simp only[List.getElem_cons_zero]at hp0 hv0;have hcr:=hv0.cr hcond.1;have hsz:x.cells.size=size:=by rw[hcr.size];exact hcond.2.1
   have hfold:(x.cells.zipIdx.foldl (fun cs (c,j)=>cs.setIfInBounds (off+j) c) us)=wr us off x.cells.toList:=by
    rw[<-Array.foldl_toList,Array.toList_zipIdx];exact aOi x.cells.toList 0 off us
   obtain⟨us',h1,h2⟩:=aC5 ps qs _ (wr us off x.cells.toList) r (by simpa using hl) (fun j hj hj'=>hp (j+1) (by simp;omega) (by simp;omega)) (hc.set hcr (by rw[hcond.2.1];exact hcond.2.2)) h
   refine⟨us',?_,h2⟩
   simp only[Instr.fill,hp0,hsz];rw[if_neg (by simp[hc.size];exact hcond.2.2),hfold]
   exact h1
  ·cases h
theorem aT1 {fs:List Field}(h:fs.all (fun f=>(P.info? f.type).isSome)=true):(fs.mapM (fun f=>do pure (f.offset,<-sizeOf f.type):Field->Sem (Nat×Nat))).run P w= .ok (fs.map fun f=>(f.offset,P.cellsOf f.type)) w:=by
 induction fs with
 |nil=>rfl
 |cons f fs ih=>
  simp only[bQ7,bOx]at h;obtain⟨ti,hti⟩:=bQk.1 h.1;simp only[List.mapM_cons,Sem.run_bind,eE hti,Result.andThen_ok,ih h.2,Sem.run_pure,bPw]
theorem aOj (h:gK P t=some z): ∃i v,P.info? t=some i/\ i.zero=some v/\ CR T G w z v.cells:=
 let ⟨i,v,a,b,c,e,f⟩:=tP (P:=P) (G:=G) (w:=w) (T:=T) h
 ⟨i,v,a,b,c,e,f⟩
theorem vJ {α:Type}(hR:Rel P Ξ B S G st N a w){f:Nat×Operand->Option α}{get:α->Opd}{ps:List (Nat×Operand)}{qs:List α}(h:cU f ps=some qs)(hg: ∀p q,f p=some q->aO p.2=some (get q)):
  qs.length=ps.length/\ ∀i (h:i<ps.length) (h':i<qs.length),f ps[i]=some qs[i]/\ VR (aX B S G w.heap.size) G w (St.get st.fr (get qs[i])) (a.eval ps[i].2):=by
 obtain⟨h1,h2⟩:=eR h;exact⟨h1,fun i hi hi'=>⟨h2 i hi hi',aU hR (hg _ _ (h2 i hi hi'))⟩⟩
theorem aH6 (hR:Rel P Ξ B S G st N a w){fs:Array Field}(ho:o.op= .build t parts)(ht:P.underlying t=some (.struct fs))
  (hfs:fs.toList.all (fun f=>(P.info? f.type).isSome)=true) (hz:gK P t=some z)
  (hp:cU (fun(p:Nat×Operand)=>(do let f<-fs[p.1]?;pure (f.offset,P.cellsOf f.type,<-aO p.2):Option (Nat×Nat×Opd))) parts.toList=some ps)
  (hv:sC z (ps.map fun p=>(p.1,p.2.1,St.get st.fr p.2.2))=some cs):eK P Ξ B S st N a w o d {v:= .agg cs}:=by
 obtain⟨ti,zv,hti,hzv,hcr⟩:=aOj (P:=P) (G:=G) (w:=w) (T:=aX B S G w.heap.size) hz;have hpp: ∀(p:Nat×Operand) (q:Nat×Nat×Opd),(do let f<-fs[p.1]?;pure (f.offset,P.cellsOf f.type,<-aO p.2):Option (Nat×Nat×Opd))=some q-> ∃f,fs[p.1]?=some f/\ q.1=f.offset/\ q.2.1=P.cellsOf f.type/\ aO p.2=some q.2.2:=by
  intro p q h;simp only[bPj,bO9,bPl,bOw]at h;obtain⟨f,hf,y,hy,rfl⟩:=h;exact⟨f,hf,rfl,rfl,hy⟩
 obtain⟨l1,l2⟩:=vJ (get:=fun q=>q.2.2) hR hp (fun p q h=>let ⟨_,_,_,_,e⟩:=hpp p q h;e)
 obtain⟨us,h1,h2⟩:=aC5 (G:=G) (w:=w) (place:=fun i=>(fs.toList.map fun f=>(f.offset,P.cellsOf f.type)).toArray[i]?) (parts.toList.map fun(p:Nat×Operand)=>(p.1,a.eval p.2)) (ps.map fun p=>(p.1,p.2.1,St.get st.fr p.2.2)) z zv.cells cs
  (by simp[l1]) (fun i hi hi'=>by
   simp only[bOz]at hi hi';obtain⟨e1,e2⟩:=l2 i hi hi';obtain⟨f,g1,g2,g3,g4⟩:=hpp _ _ e1;simp only[List.getElem_map]
   refine⟨?_,e2⟩
   rw[g2,g3];simp only[List.getElem?_toArray,List.getElem?_map,Array.getElem?_toList,g1,bPq]) hcr hv
 refine bZ (x:= .agg us) hR ?_ (.agg cs us h2.size h2.one h2.vr)
 have hpl:(fs.mapM (fun f=>do pure (f.offset,<-sizeOf f.type):Field->Sem (Nat×Nat))).run P w= .ok (fs.toList.map fun f=>(f.offset,P.cellsOf f.type)).toArray w:=by
  rw[bSf];simp only[Sem.run_map,aT1 hfs,Result.andThen_ok]
 simp only[execOp,ho,Instr.build,Sem.run_bind,gH hti hzv,Result.andThen_ok,run_underlying ht,hpl];rw[show(parts.map fun(i,x)=>(i,a.eval x)).toList=parts.toList.map fun(p:Nat×Operand)=>(p.1,a.eval p.2)by simp,h1]
 simp
theorem aJa (hR:Rel P Ξ B S G st N a w)(ho:o.op= .build t parts)(ht:P.underlying t=some (.array n e))
  (he:(P.info? e).isSome=true) (hz:gK P t=some z)
  (hp:cU (fun(p:Nat×Operand)=>(do pure (p.1*P.cellsOf e,P.cellsOf e,<-aO p.2):Option (Nat×Nat×Opd))) parts.toList=some ps)
  (hv:sC z (ps.map fun p=>(p.1,p.2.1,St.get st.fr p.2.2))=some cs):eK P Ξ B S st N a w o d {v:= .agg cs}:=by
 obtain⟨te,hte⟩:=bQk.1 he;obtain⟨ti,zv,hti,hzv,hcr⟩:=aOj (P:=P) (G:=G) (w:=w) (T:=aX B S G w.heap.size) hz;have hpp: ∀(p:Nat×Operand) (q:Nat×Nat×Opd),(do pure (p.1*P.cellsOf e,P.cellsOf e,<-aO p.2):Option (Nat×Nat×Opd))=some q->q.1=p.1*P.cellsOf e/\ q.2.1=P.cellsOf e/\ aO p.2=some q.2.2:=by
  intro p q h;simp only[bPj,bO9,bPl,bOw]at h;obtain⟨y,hy,rfl⟩:=h;exact⟨rfl,rfl,hy⟩
 obtain⟨l1,l2⟩:=vJ (get:=fun q=>q.2.2) hR hp (fun p q h=>(hpp p q h).2.2)
 obtain⟨us,h1,h2⟩:=aC5 (G:=G) (w:=w) (place:=fun i=>some (i*P.cellsOf e,P.cellsOf e)) (parts.toList.map fun(p:Nat×Operand)=>(p.1,a.eval p.2)) (ps.map fun p=>(p.1,p.2.1,St.get st.fr p.2.2)) z zv.cells cs
  (by simp[l1]) (fun i hi hi'=>by
   simp only[bOz]at hi hi';obtain⟨e1,e2⟩:=l2 i hi hi';obtain⟨g2,g3,g4⟩:=hpp _ _ e1;simp only[List.getElem_map];exact⟨by rw[g2,g3],e2⟩) hcr hv
 refine bZ (x:= .agg us) hR ?_ (.agg cs us h2.size h2.one h2.vr)
 simp only[execOp,ho,Instr.build,Sem.run_bind,gH hti hzv,Result.andThen_ok,run_underlying ht,eE hte];rw[show(parts.map fun(i,x)=>(i,a.eval x)).toList=parts.toList.map fun(p:Nat×Operand)=>(p.1,a.eval p.2)by simp,h1]
 simp
theorem aOk (hR:Rel P Ξ B S G st N a w){y:Operand}{k:Key}(ho:o.op= .store t x y)(hi:(P.info? t).isSome=true)(h1:aO x=some x')(h2:aO y=some y')
  (h3:(St.get st.fr y').one=true) (h4:(St.get st.fr y').cells.length=P.cellsOf t) (hX:St.get st.fr x'= .ptr k off) (he:st.en k=some (.box cs false)) (hl:off+P.cellsOf t<=cs.length):
  eK P Ξ B S st N a w o d {v:= .tup [],ws:=[.cells k off (St.get st.fr y').cells],rs:=rs}:=by
 have hx:=aU hR h1;have hy:=(aU hR h2).cr h3;generalize St.get st.fr y'=Y at*;generalize hgx:a.eval x=u at hx;rw[hX]at hx;cases hx with
 |ptr _ _ b hb=>
 have hE:=hR.ents k _ he (Gh.knows_box hb);cases hE with
 |box _ _ b' c ty hb' hB hh hs ho1 hv hown=>
  rw[hb]at hb';simp only[bOw]at hb';subst hb';simp only[bO0,if_false]at hown;have hcr:CR (aX B S G w.heap.size) G w cs c:=⟨hs,ho1,hv⟩;have hset:=hcr.set hy (by rw[h4];exact hl)
  have hrel:=hR.write (e':= .box (setCells cs off Y.cells) false) (o':= .cells (wr c off (a.eval y).cells.toList) ty (0,0)) hown hh (fun _ _=> .inl (by simp)) (fun _=>by simp) (fun _ h=>by cases h) (fun off h=>by omega)
   (fun m=> .box _ false b _ ty hb hB (by rw[kU _ (dY hh)]) hset.size hset.one (fun j hj=>(hset.vr j hj).mono m) (by simpa using hown))
  refine aOf ?_ (G':=G) (w':=kG w b (.cells (wr c off (a.eval y).cells.toList) ty (0,0))) ?_ rfl ?_
  ·have hrun:=aD8 (P:=P) (t:=t) (o:=off) (x:=a.eval y) hh (bQk.1 hi) (by rw[hy.size,h4]) (fun i hi=>hy.one i (by rw[<-hy.size];exact hi)) (by rw[hy.size,h4,hs];exact hl)
   simp[execOp,ho,hgx,Instr.storeAt,Instr.sureAddr,hrun]
  ·have:W.applyAll st.en [.cells k off Y.cells]=st.en.set k (some (.box (setCells cs off Y.cells) false)):=by
    simp[W.applyAll,W.apply,he]
   simp only[St.mem,this];exact hrel
  ·refine⟨rfl,rfl,rfl,by rw[nH];exact bOy _,fun k hk=>fB _ (by omega)⟩
end
end Go.Abs
namespace Go.Abs
open Go.RowKit (Below)
structure FR (T:Nat->Nat->Prop) (G:Gh) (w:World) (sz:Nat) (xs:List Val) (us:Array Value):Prop where
 size:us.size=xs.length*sz
 len: ∀i,i<xs.length->(xs.getD i .dead).cells.length=sz
 one: ∀i j,i<xs.length->j<sz->fK (us.getD (i*sz+j) undef)=true
 vr: ∀i j,i<xs.length->j<sz->VR T G w ((xs.getD i .dead).cells.getD j .dead) (us.getD (i*sz+j) undef)
variable {i sz:Nat}
theorem vZ {j n:Nat}(hi:i<n)(hj:j<sz):i*sz+j<n*sz:=by
 have:i*sz+sz<=n*sz:=by rw[<-bQl];exact bP5 _ hi
 omega
variable {v:Val}{xs:List Val}
theorem aJb {k:Nat}(hk:k<xs.length):(xs.set i v).getD k .dead=if i=k then v else xs.getD k .dead:=by
 simp only[bO2,bRl];split
 ·rename_i h;subst h;simp[hk]
 ·rfl
variable {G:Gh}{T:Nat->Nat->Prop}{us:Array Value}{w:World}
theorem FR.set {vs:Array Value}(h:FR T G w sz xs us)(hv:CR T G w v.cells vs)(hl:v.cells.length=sz)(hi:i<xs.length):
  FR T G w sz (xs.set i v) (wr us (i*sz) vs.toList):=by
 have hvs:vs.toList.length=sz:=by simp[hv.size,hl]
 have hend:i*sz+vs.toList.length<=us.size:=by
  rw[hvs,h.size,<-bQl];exact bP5 _ hi
 have hget: ∀k j,k<xs.length->j<sz->(wr us (i*sz) vs.toList).getD (k*sz+j) undef=if i=k then vs.getD j undef else us.getD (k*sz+j) undef:=by
  intro k j hk hj;simp only[bPc,aC3 vs.toList us (i*sz) _ hend,hvs]
  by_cases hik:i=k
  ·subst hik;rw[if_pos (by omega),if_pos rfl,show i*sz+j-i*sz=j by omega]
   simp
  ·rw[if_neg hik,if_neg]
   rintro⟨h1,h2⟩
   rcases Nat.lt_or_gt_of_ne hik with h3|h3
   ·have:i*sz+sz<=k*sz:=by rw[<-bQl];exact bP5 _ h3
    omega
   ·have:k*sz+sz<=i*sz:=by rw[<-bQl];exact bP5 _ h3
    omega
 refine⟨by rw[aD7,h.size];simp,fun k hk=>?_,fun k j hk hj=>?_,fun k j hk hj=>?_⟩<;>simp only[bQ1]at hk
 ·rw[aJb hk];split
  ·exact hl
  ·exact h.len k hk
 ·rw[hget k j hk hj];split
  ·exact hv.one j (by omega)
  ·exact h.one k j hk hj
 ·rw[aJb hk,hget k j hk hj]
  by_cases hik:i=k
  ·rw[if_pos hik,if_pos hik];exact hv.vr j (by omega)
  ·rw[if_neg hik,if_neg hik];exact h.vr k j hk hj
variable {z:List Val}
theorem aOl (hz:z.length=sz)(h1: ∀i,i<z.length->(z.getD i .dead).cells=[z.getD i .dead]):(jM sz z false).cells=z:=by
 unfold jM;simp only[bO0,if_false];split
 ·rename_i h;rw[h]at hz
  match z,hz with
  |[x],_=>simpa using h1 0 (by simp)
 ·rfl
theorem FR.mono {T':Nat->Nat->Prop}{G':Gh}{w':World}(m:jJ T G w T' G' w')(h:FR T G w sz xs us):FR T' G' w' sz xs us:=
 ⟨h.size,h.len,h.one,fun i j hi hj=>(h.vr i j hi hj).mono m⟩
section
variable {P :Program}{Ξ:Env}{B:Nat}{S:Nat->Nat->Prop}{st:St}{N:Nat}{a:Act}{o:Oper}{d:Nat}{r:Res}
theorem aEc {e:TypeId}{len:Nat}(hz:gK P e=some z)(hl:z.length=sz):
  ∃i v,P.info? e=some i/\ i.zero=some v/\ v.cells.size=sz/\ FR T Gh.none w sz (List.replicate len (jM sz z false)) ((Array.range (len*sz)).map (v.cells[· %v.cells.size]!)):=by
 obtain⟨i,v,hi,hzv,hs,ho,hv⟩:=tP (P:=P) (G:=Gh.none) (w:=w) (T:=T) hz
 refine⟨i,v,hi,hzv,by omega,?_⟩
 have hc1:(jM sz z false).cells=z:=aOl hl fun k hk=>by
  have h1:=(hv k hk).not_agg (ho k hk);generalize z.getD k .dead=u at h1;cases u<;>first|rfl|exact absurd rfl (h1 _)
 have hget: ∀k,k<len->(List.replicate len (jM sz z false)).getD k .dead=jM sz z false:=fun k hk=>by
  simp[bO2,List.getElem?_replicate,hk]
 have hgu: ∀k j,k<len->j<sz->((Array.range (len*sz)).map (v.cells[· %v.cells.size]!)).getD (k*sz+j) undef=v.cells.getD j undef:=by
  intro k j hk hj;have hlt:=vZ hk hj;have hmod:(k*sz+j)%v.cells.size=j:=by
   rw[show v.cells.size=sz by omega,Nat.mul_comm,Nat.mul_add_mod,Nat.mod_eq_of_lt hj]
  simp only[bPc,Array.getElem?_map,Array.getElem?_range,hlt,if_true,bPq,bPp,hmod];simp[show j<v.cells.size by omega]
 refine⟨by simp,fun k hk=>?_,fun k j hk hj=>?_,fun k j hk hj=>?_⟩<;>simp only[List.length_replicate]at hk
 ·rw[hget k hk,hc1];exact hl
 ·rw[hgu k j hk hj];exact ho j (by omega)
 ·rw[hget k hk,hc1,hgu k j hk hj];exact hv j (by omega)
theorem aAa {T:Nat->Nat->Prop}{sz:Nat}: ∀(ps:List (Nat×Value)) (qs:List (Nat×Val)) (xs:List Val) (us:Array Value) (r:List Val),qs.length=ps.length->
  (∀i (h:i<ps.length) (h':i<qs.length),qs[i].1=ps[i].1/\ VR T G w qs[i].2 ps[i].2)->FR T G w sz xs us->dZ xs sz qs=some r->
  ∃us',Instr.fill (fun i=>some (i*sz,sz)) us ps=some us'/\ FR T G w sz r us'
 |[],[],xs,us,r,_,_,hc,h=>by simp only[dZ,bOw]at h;subst h;exact⟨us,rfl,hc⟩
 |[],_::_,_,_,_,h,_,_,_=>by simp at h
 |_::_,[],_,_,_,h,_,_,_=>by simp at h
 |(i,x)::ps,(i',v)::qs,xs,us,r,hl,hp,hc,h=>by
  simp only[dZ]at h
  split at h
  ·rename_i hcond;obtain⟨hp0,hv0⟩:=hp 0 (by simp) (by simp)
   simp only[List.getElem_cons_zero]at hp0 hv0;subst hp0;have hcr:=hv0.cr hcond.1;have hsz:x.cells.size=sz:=by rw[hcr.size];exact hcond.2.1
   have hfold:(x.cells.zipIdx.foldl (fun cs (c,j)=>cs.setIfInBounds (i'*sz+j) c) us)=wr us (i'*sz) x.cells.toList:=by
    rw[<-Array.foldl_toList,Array.toList_zipIdx];exact aOi x.cells.toList 0 (i'*sz) us
   obtain⟨us',h1,h2⟩:=aAa ps qs _ (wr us (i'*sz) x.cells.toList) r (by simpa using hl) (fun j hj hj'=>hp (j+1) (by simp;omega) (by simp;omega)) (hc.set hcr hcond.2.1 hcond.2.2) h
   refine⟨us',?_,h2⟩
   simp only[Instr.fill,hsz];rw[if_neg (by
    have:i'*sz+sz<=xs.length*sz:=by rw[<-bQl];exact bP5 _ hcond.2.2
    simp[hc.size];omega),hfold]
   exact h1
  ·cases h
theorem VR.wk {x:Value}(h:VR T G w v x):VR T G w v.wk x:=by
 cases v with
 |tup vs=>
  cases h with
  |tup _ us h hv=>exact .tup _ us (by simpa using h) (fun i hi=>by rw[aEa];exact(hv i (by simpa using hi)).wk1)
 |_=>exact h.wk1
end
end Go.Abs
namespace Go.Abs
open Go.RowKit (Below)
variable [Inhabited lX]
variable {T S:Nat->Nat->Prop}{b sz len n B N d:Nat}{ty e t:TypeId}{xs z:List Val}{parts:Array (Nat×Operand)}{qs:List (Nat×Opd)}{rs:List R}{x y:Operand}{x' y':Opd}{w:World}{G:Gh}{P:Program}{r:Res}{Ξ:Env}{st:St}{a:Act}
section
variable {o:Oper}
theorem aCh (hR:Rel P Ξ B S G st N a w)(ks:List Key): ∃G',Rel P Ξ B S G' {st with en:=W.applyAll st.en (ks.map .frz)} N a w/\ G.le G'/\ (∀b o,aX B S G w.heap.size b o->aX B S G' w.heap.size b o)/\
  (∀(n:Nat) (v v':Val) (x:Value) (ks':List Key),VR (aX B S G w.heap.size) G w v x->snap n st.en v=some (v',ks')->(∀k∈ks',k∈ks)->VR (aX B S G' w.heap.size) Gh.none w v' x)/\ ∀k,G'.knows k->G.knows k:=by
 obtain⟨G',h1,m,e1,e2,e3,hc⟩:=hR.freezeAll ks
 refine⟨G',h1,m.g,m.t,fun n v v' x ks' hv hs hk=>?_,fun k hk=>by unfold Gh.knows at hk⊢;rwa [e1,e2,e3]at hk⟩
 exact xV hR.ents ⟨m.t,G.le_refl,m.cell,m.map,m.defer,m.loop⟩ n hv hs fun k hk' e he=>(hc k (hk k hk') e he).mono (fun _ _ h=>h) e1.symm e2.symm e3.symm
theorem xY (hR:Rel P Ξ B S G st N a w)(ks:List Key): ∃G',Rel P Ξ B S G' {st with en:=W.applyAll st.en (ks.map .frz)} N a w/\ G.le G'/\ (∀b o,aX B S G w.heap.size b o->aX B S G' w.heap.size b o)/\
  ∀(n:Nat) (v v':Val) (x:Value) (ks':List Key),VR (aX B S G w.heap.size) G w v x->snap n st.en v=some (v',ks')->(∀k∈ks',k∈ks)->VR (aX B S G' w.heap.size) Gh.none w v' x:=by
 obtain⟨G',h1,h2,h3,h4,_⟩:=aCh hR ks;exact⟨G',h1,h2,h3,h4⟩
theorem bIa {us:Array Value}(h:FR T Gh.none w sz xs us)(hb:w.heap[b]?=some (.cells us ty (0,0)))(ht: ∀o,o<us.size->T b o):
  VR T G w (.cl xs) (.slice (some ⟨b,0,none⟩) xs.length xs.length):=by
 refine .cl xs b 0 sz (fun i j=>us.getD (i*sz+j) undef) h.len (fun i j hi hj=>?_) (fun i j hi hj=>?_) h.one h.vr
 ·have:=vZ hi hj;rw[bPs,lY hb];simp[show i*sz+j<us.size by rw[h.size];exact this]
 ·rw[bPs];exact ht _ (by rw[h.size];exact vZ hi hj)
theorem aJc {F:Val->Val}(hF: ∀{T:Nat->Nat->Prop} {w:World} {v:Val} {x:Value},VR T Gh.none w v x->VR T Gh.none w (F v) x)(hR:Rel P Ξ B S G st N a w){ps:List ((Nat×Val)×List Key)}(ho:o.op= .buildSlice t len parts)(ht:P.underlying t=some (.slice e))
  (hz:gK P e=some z) (hzl:z.length=P.cellsOf e) (hp:cU (fun(p:Nat×Operand)=>(do pure (p.1,<-aO p.2):Option (Nat×Opd))) parts.toList=some qs)
  (hl:len*P.cellsOf e<=16777216) (hs:cU (fun p=>(snap n st.en (St.get st.fr p.2)).map fun r=>((p.1,F r.1),r.2)) qs=some ps)
  (hf:dZ (List.replicate len (jM (P.cellsOf e) z false)) (P.cellsOf e) (ps.map (·.1))=some xs) :
  eK P Ξ B S st N a w o d {v:= .cl xs,ws:=(ps.flatMap (·.2)).map .frz,rs:=rs}:=by
 obtain⟨G',hR',hg,hT,hsnap⟩:=xY hR (ps.flatMap (·.2));obtain⟨l1,l2⟩:=vJ (get:=fun q=>q.2) hR hp (fun p q h=>by
  simp only[bPj,bO9,bPl,bOw]at h;obtain⟨y,hy,rfl⟩:=h;exact hy)
 obtain⟨m1,m2⟩:=eR hs;obtain⟨i,v,hi,hzv,hvs,hfr⟩:=aEc (P:=P) (w:=w) (T:=aX B S G' w.heap.size) (len:=len) hz hzl;obtain⟨us,h1,h2⟩:=aAa (G:=Gh.none) (w:=w) (T:=aX B S G' w.heap.size) (parts.toList.map fun(p:Nat×Operand)=>(p.1,a.eval p.2)) (ps.map (·.1)) _ _ xs (by simp[m1,l1]) (fun i hi hi'=>by
  simp only[bOz]at hi hi';have hiq:i<qs.length:=by omega
  obtain⟨e1,e2⟩:=l2 i hi hiq;have e3:=m2 i hiq hi';simp only[bPa]at e3;obtain⟨⟨v',ks'⟩,e4,e5⟩:=e3;simp only[bPj,bO9,bPl,bOw]at e1;obtain⟨y,_,e6⟩:=e1;simp only[List.getElem_map,<-e5]
  refine⟨by rw[<-e6],hF (hsnap n _ v' _ ks' e2 e4 fun k hk=>bQa.2 ⟨ps[i],bO6 hi',by rw[<-e5];exact hk⟩)⟩) hfr hf
 have hxl:xs.length=len:=by
  have: ∀(qs:List (Nat×Val)) (ys r:List Val) (s:Nat),dZ ys s qs=some r->r.length=ys.length:=by
   intro qs
   induction qs with
   |nil=>intro ys r s h;simp only[dZ,bOw]at h;subst h;rfl
   |cons q qs ih=>
    intro ys r s h;simp only[dZ]at h
    split at h
    ·have:=ih _ _ _ h;simpa using this
    ·cases h
  simpa using this _ _ _ _ hf
 have hb:=mY hR (.cells us e);have hRf:=hR'.below ((Below.refl w.heap.size w).alloc (bOy _) (.cells us e));have hnew:=fF w (.cells us e);have hm:jJ (aX B S G' w.heap.size) Gh.none w (aX B S G' (w.alloc (.cells us e)).heap.size) Gh.none (w.alloc (.cells us e)):=
  (qX (B:=B) (S:=S) (G:=G') ((Below.refl w.heap.size w).alloc (bOy _) (.cells us e))).none
 have hval:=bIa (G:=G') (h2.mono hm) hnew (fun o ho=>⟨dY hnew,.inr ⟨hR.size,by
  cases hown:G'.own w.heap.size with
  |none=>trivial
  |some q=>obtain⟨q1,q2⟩:=q;have:=(hR'.own _ _ _ hown).2.1;omega⟩⟩)
 rw[hxl]at hval
 refine jC (G':=G') (x:= .slice (some ⟨w.heap.size,0,none⟩) len len) ?_ ?_ hval hb
 ·have hpre: ∀zero:Array Value,zero= #[]->len*P.cellsOf e=0->(Array.range (len*P.cellsOf e)).map (zero[· %zero.size]!)=(Array.range (len*P.cellsOf e)).map (v.cells[· %v.cells.size]!):=by
   intro zero _ h0;rw[h0,Array.range_zero',Array.map_empty,Array.map_empty]
  simp only[execOp,ho,Instr.buildSlice,Sem.run_bind,run_underlying ht,Result.andThen_ok,eE hi];rw[if_neg (by omega)]
  rw[show(parts.map fun(i,x)=>(i,a.eval x)).toList=parts.toList.map fun(p:Nat×Operand)=>(p.1,a.eval p.2)by simp]
  by_cases h0:len*P.cellsOf e=0
  ·simp only[if_pos h0,Sem.run_bind,Sem.run_pure,Result.andThen_ok];rw[hpre _ rfl h0,h1];simp[newRow]
  ·simp only[if_neg h0,Sem.run_bind,gH hi hzv,Sem.run_pure,Result.andThen_ok];rw[h1];simp[newRow]
 ·exact hRf
theorem aZo (hR:Rel P Ξ B S G st N a w){m:Int}(ho:o.op= .makeSlice t x y)(ht:P.underlying t=some (.slice e))
  (hz:gK P e=some z) (hzl:z.length=P.cellsOf e) (hby:P.bytesOf e<=1048576) (h1:aO x=some x') (h2:aO y=some y') (hx:St.get st.fr x'= .int .i64 m) (hy:St.get st.fr y'= .int .i64 m) (hm:0<=m/\ m<=16777216):
  eK P Ξ B S st N a w o d {v:= .bl ⟨0,d,st.cnt 0 d⟩ 0 m.toNat,ws:=[.ent ⟨0,d,st.cnt 0 d⟩ (some (.blk (P.cellsOf e) (List.replicate m.toNat (jM (P.cellsOf e) z false)) false))],bump:=true}:=by
 have vx:=aU hR h1;have vy:=aU hR h2;rw[hx]at vx;rw[hy]at vy;have ex:=tQ vx;have ey:=tQ vy;obtain⟨k,rfl⟩:=bP2 hm.1;obtain⟨i,v,hi,hzv,hvs,hfr⟩:=aEc (P:=P) (w:=w) (T:=aX B S G w.heap.size) (len:=k) hz hzl;have hf:=hR.freshG ⟨0,d,st.cnt 0 d⟩ (bOy _);have hg:=Gh.le_addBlk (b:=w.heap.size) (base:=0) (sz:=P.cellsOf e) (C:=k) (thr:=0) hf.2.1;have ho': ∀b,b≠w.heap.size->(G.addBlk ⟨0,d,st.cnt 0 d⟩ w.heap.size 0 (P.cellsOf e) k 0).own b=G.own b:=fun b hb=>by simp[Gh.addBlk,hb]
 have mm:=oU (B:=B) (S:=S) (w:=w) (o:= .cells ((Array.range (k*P.cellsOf e)).map (v.cells[· %v.cells.size]!)) e) hg ho';have hrel:=hR.alloc d (.cells ((Array.range (k*P.cellsOf e)).map (v.cells[· %v.cells.size]!)) e) (.blk (P.cellsOf e) (List.replicate k (jM (P.cellsOf e) z false)) false) _ hg ho'
  (fun k' hk'=>by simp[Gh.addBlk,hk']) (fun k' t h=>by simp[Gh.addBlk]at h;exact h.1.symm)
  (.blk _ false w.heap.size 0 _ k 0 _ e (by simp[Gh.addBlk]) hR.size (fF _ _) (by simp) (by rw[hfr.size];simp) hfr.len
   (fun i j hi hj=>by rw[bPs];exact hfr.one i j hi hj) (fun i j hi hj=>by rw[bPs];exact((hfr.vr i j hi hj).mono mm.none).into _) (by simp[Gh.addBlk]) (by simp))
 refine jC (x:= .slice (some ⟨w.heap.size,0,none⟩) k k) ?_ (by simpa[St.mem,W.applyAll,W.apply]using hrel) ?_ (mY hR _)
 ·have hb:P.bytesOf e=i.bytes:=by simp[Program.bytesOf,hi]
  have hbig: ¬(281474976710656<(i.bytes:Int)*k):=by
   rw[hb]at hby;have:i.bytes*k<=1048576*16777216:=Nat.mul_le_mul hby (by omega)
   have:((i.bytes*k:Nat):Int)<=17592186044416:=by omega
   rw[Int.natCast_mul]at this;omega
  have hw:IntKind.i64.wrap (k:Int)=k:=IntWalk.i64_in _ (by omega)
  have hpre: ∀zero:Array Value,zero= #[]->k*P.cellsOf e=0->(Array.range (k*P.cellsOf e)).map (zero[· %zero.size]!)=(Array.range (k*P.cellsOf e)).map (v.cells[· %v.cells.size]!):=by
   intro zero _ h0;rw[h0,Array.range_zero',Array.map_empty,Array.map_empty]
  have hti:(typeInfo e).run P w= .ok i w:=by simp[typeInfo,hi]
  simp only[execOp,ho,ex,ey,Instr.makeSlice,Sem.run_bind,run_underlying ht,Result.andThen_ok,asInt,asIntOf,Sem.run_pure,hti,hw];rw[if_neg (by simp[hbig])]
  simp only[Sem.run_bind,run_askRoom,Result.andThen_ok,eE hi,bPz]
  by_cases h0:k*P.cellsOf e=0
  ·simp only[if_pos h0,Sem.run_bind,Sem.run_pure,Result.andThen_ok];rw[hpre _ rfl h0];simp[newRow]
  ·simp only[if_neg h0,Sem.run_bind,gH hi hzv,Sem.run_pure,Result.andThen_ok];simp[newRow]
 ·have:=VR.bl (T:=aX B S (G.addBlk ⟨0,d,st.cnt 0 d⟩ w.heap.size 0 (P.cellsOf e) k 0) (w.alloc (.cells ((Array.range (k*P.cellsOf e)).map (v.cells[· %v.cells.size]!)) e)).heap.size)
   (G:=G.addBlk ⟨0,d,st.cnt 0 d⟩ w.heap.size 0 (P.cellsOf e) k 0) (w:=w.alloc (.cells ((Array.range (k*P.cellsOf e)).map (v.cells[· %v.cells.size]!)) e)) ⟨0,d,st.cnt 0 d⟩ 0 k w.heap.size 0 (P.cellsOf e) k (by simp[Gh.addBlk]) (by omega)
  simpa using this
end
structure Rd (T:Nat->Nat->Prop) (G0:Gh) (w:World) (sz:Nat) (xs:List Val) (b off:Nat):Prop where
 len: ∀i,i<xs.length->(xs.getD i .dead).cells.length=sz
 cell: ∀i j,i<xs.length->j<sz-> ∃c,w.cell? ⟨b,off+i*sz+j,.none⟩=some c/\ fK c=true/\ VR T G0 w ((xs.getD i .dead).cells.getD j .dead) c
def rdl (w:World)(b off n:Nat):List Value:=(List.range n).map fun k=>(w.cell? ⟨b,off+k,.none⟩).getD undef
theorem aEd (w:World)(b off n:Nat):(rdl w b off n).length=n:=by simp[rdl]
variable {off:Nat}
theorem aVx {k:Nat}(hk:k<n):(rdl w b off n)[k]?=some ((w.cell? ⟨b,off+k,.none⟩).getD undef):=by
 simp[rdl,List.getElem?_range hk]
theorem aZp {k:Nat}(h:k<n*sz):k/sz<n/\ k%sz<sz/\ k=k/sz*sz+k%sz:=by
 have hsz:0<sz:=by
  rcases Nat.eq_zero_or_pos sz with h0|h0
  ·subst h0;simp at h
  ·exact h0
 exact⟨(Nat.div_lt_iff_lt_mul hsz).2 h,Nat.mod_lt _ hsz,by rw[Nat.mul_comm];exact(Nat.div_add_mod k sz).symm⟩
variable {G0:Gh}
theorem Rd.news (h:Rd T G0 w sz xs b off):
  ∀j v,(rdl w b off (xs.length*sz))[j]?=some v->w.cell? ((⟨b,off,.none⟩:Addr).add j)=some v:=by
 intro j v hv;have hj:j<xs.length*sz:=by
  have:=(bSe.1 hv).1;rwa [aEd]at this
 rw[aVx hj]at hv;obtain⟨h1,h2,h3⟩:=aZp hj;obtain⟨c,hc,_⟩:=h.cell _ _ h1 h2;rw[bQo,<-h3]at hc;rw[hc]at hv;rw[rK,hc];exact hv
variable {i j:Nat}
theorem Rd.at (h:Rd T G0 w sz xs b off)(hi:i<xs.length)(hj:j<sz):
  ∃c,(rdl w b off (xs.length*sz))[i*sz+j]?=some c/\ fK c=true/\ VR T G0 w ((xs.getD i .dead).cells.getD j .dead) c:=by
 obtain⟨c,h1,h2,h3⟩:=h.cell i j hi hj
 refine⟨c,?_,h2,h3⟩
 rw[aVx (vZ hi hj),<-bQo,h1];rfl
variable {ys:List Val}
theorem vK :(xs++ys).getD i .dead=if i<xs.length then xs.getD i .dead else ys.getD (i-xs.length) .dead:=by
 simp only[bO2,bRn]
 split<;>rfl
variable {Y:Val}{cap q base:Nat}{frz:Bool}
section
variable {o:Oper}
theorem aW4 (hR:Rel P Ξ B S G st N a w){y:Value}(hy:VR (aX B S G w.heap.size) G w Y y)(h:iN st.en Y=some (ys,rs)):
  ∃q cap,y= .slice q ys.length cap/\ (ys=[] \/ ∃b off sz,q=some ⟨b,off,.none⟩/\ Rd (aX B S G w.heap.size) Gh.none w sz ys b off):=by
 have fro: ∀{xs:List Val} {clip:Bool},Fro (aX B S G w.heap.size) w xs clip y-> ∃q cap,y= .slice q xs.length cap/\ (xs=[] \/ ∃b off sz,q=some ⟨b,off,.none⟩/\ Rd (aX B S G w.heap.size) Gh.none w sz xs b off):=by
  intro xs clip hf;cases hf with
  |nil p cap h hc=>subst h;exact⟨p,cap,rfl,.inl rfl⟩
  |some b off sz cap c hc hcl hs h ht ho hv=>exact⟨_,_,rfl,.inr ⟨b,off,sz,rfl,hs,fun i j hi hj=>⟨c i j,h i j hi hj,ho i j hi hj,hv i j hi hj⟩⟩⟩
 unfold iN at h
 split at h
 ·simp only[bOw,bO1]at h;obtain⟨rfl,_⟩:=h;exact fro (aT0 hy)
 ·simp only[bOw,bO1]at h;obtain⟨rfl,_⟩:=h;exact fro (aI9 hy)
 ·simp only[bOw,bO1]at h;obtain⟨rfl,_⟩:=h;cases hy with
  |es p cap=>exact⟨p,cap,rfl,.inl rfl⟩
 ·rename_i k off len
  split at h
  ·rename_i sz xs f he
   split at h
   ·rename_i hle;obtain⟨hle,hdp⟩:=hle;simp only[bOw,bO1]at h;obtain⟨rfl,_⟩:=h;have hlen:((xs.drop off).take len).length=len:=by simp;omega
    cases hy with
    |bl0 _ p hb=>exact⟨p,0,by rw[hlen],.inl (by simp)⟩
    |ble _ p b base sz C hb=>exact⟨p,0,by rw[hlen],.inl (by simp)⟩
    |bl _ _ _ b base sz' C hb hC=>
     refine⟨_,_,by rw[hlen],.inr ⟨b,base+off*sz',sz',rfl,fun i hi=>?_,fun i j hi hj=>?_⟩⟩<;>rw[hlen]at hi<;>rw[kV hi hle]
     ·exact((hR.ents k _ he (Gh.knows_blk hb)).elem hb (i:=off+i) (by omega)).1
     ·obtain⟨c,h1,h2,h3⟩:=((hR.ents k _ he (Gh.knows_blk hb)).elem hb (i:=off+i) (by omega)).2 j hj
      rw[Gh.at_none hdp]at h3;exact⟨c,by rw[show base+off*sz'+i*sz'+j=base+(off+i)*sz'+j by rw[bQj];omega];exact h1,h2,h3⟩
   ·cases h
  ·cases h
 ·cases h
theorem Rel.drop (hR:Rel P Ξ B S G st N a w)(k:Key):Rel P Ξ B S G {st with en:=st.en.set k none} N a w:=
 ⟨hR.size,hR.tmps,hR.frame,hR.marks,fun k' e he hkn=>by
  simp only[En.set]at he;split at he
  ·cases he
  ·exact hR.ents k' e he hkn,fun k' hk'=>by
  simp only[En.set];split
  ·rfl
  ·exact hR.freshEn k' hk',hR.freshG,hR.own,hR.extra,hR.round,hR.defs,hR.virt⟩
theorem aZq (hR:Rel P Ξ B S G st N a w){zs:List Val}{c:Array Value}(hlen: ∀i,i<zs.length->(zs.getD i .dead).cells.length=sz)
  (hcell: ∀i j,i<zs.length->j<sz-> ∃u,c[i*sz+j]?=some u/\ fK u=true/\ VR (aX B S G w.heap.size) (G.atq q) w ((zs.getD i .dead).cells.getD j .dead) u) (hcap:zs.length<=cap) (hsize:cap*sz<=c.size):
  ∃G',Rel P Ξ B S G' {fr:=st.fr,en:=st.en.set ⟨q,d,st.cnt q d⟩ (some (.blk sz zs frz)),cnt:=aC st.cnt q d (st.cnt q d+1)} N a (w.alloc (.cells c e))/\
   VR (aX B S G' (w.alloc (.cells c e)).heap.size) G' (w.alloc (.cells c e)) (.bl ⟨q,d,st.cnt q d⟩ 0 zs.length) (.slice (some ⟨w.heap.size,0,none⟩) zs.length cap):=by
 have hf:=hR.freshG ⟨q,d,st.cnt q d⟩ (bOy _);let thr:=if frz then zs.length*sz else 0
 have hg:=Gh.le_addBlk (b:=w.heap.size) (base:=0) (sz:=sz) (C:=cap) (thr:=thr) hf.2.1;have ho': ∀b,b≠w.heap.size->(G.addBlk ⟨q,d,st.cnt q d⟩ w.heap.size 0 sz cap thr).own b=G.own b:=fun b hb=>by simp[Gh.addBlk,hb]
 have mm:=oU (B:=B) (S:=S) (w:=w) (o:= .cells c e) hg ho';have hget: ∀i j,i<zs.length->j<sz->fK (c.getD (i*sz+j) undef)=true/\ VR (aX B S G w.heap.size) (G.atq q) w ((zs.getD i .dead).cells.getD j .dead) (c.getD (i*sz+j) undef):=fun i j hi hj=>by
  obtain⟨u,h1,h2,h3⟩:=hcell i j hi hj;simp only[bPc,h1,bPp];exact⟨h2,h3⟩
 refine⟨_,hR.allocN q d (.cells c e) (.blk sz zs frz) _ hg ho' (fun k' hk'=>by simp[Gh.addBlk,hk']) (fun k' t h=>by simp[Gh.addBlk]at h;exact h.1.symm)
  (.blk zs frz w.heap.size 0 sz cap thr c e (by simp[Gh.addBlk]) hR.size (fF _ _) hcap (by omega) hlen
   (fun i j hi hj=>by rw[bPs];exact(hget i j hi hj).1) (fun i j hi hj=>by rw[bPs];exact(hget i j hi hj).2.mono (mm.atq q)) (by simp[Gh.addBlk]) (by simp[thr])),?_⟩
 have:=VR.bl (T:=aX B S (G.addBlk ⟨q,d,st.cnt q d⟩ w.heap.size 0 sz cap thr) (w.alloc (.cells c e)).heap.size) (G:=G.addBlk ⟨q,d,st.cnt q d⟩ w.heap.size 0 sz cap thr) (w:=w.alloc (.cells c e)) ⟨q,d,st.cnt q d⟩ 0 zs.length w.heap.size 0 sz cap (by simp[Gh.addBlk]) (by omega)
 simpa using this
theorem aVy (hR:Rel P Ξ B S G st N a w)(sz:Nat)(frz:Bool): ∃G',Rel P Ξ B S G' {fr:=st.fr,en:=st.en.set ⟨q,d,st.cnt q d⟩ (some (.blk sz [] frz)),cnt:=aC st.cnt q d (st.cnt q d+1)} N a w/\
   ∀p,VR (aX B S G' w.heap.size) G' w (.bl ⟨q,d,st.cnt q d⟩ 0 0) (.slice p 0 0):=by
 have hf:=hR.freshG ⟨q,d,st.cnt q d⟩ (bOy _);have hg:=Gh.le_addNul hf.2.1;have m:jJ (aX B S G w.heap.size) G w (aX B S (G.addNul ⟨q,d,st.cnt q d⟩) w.heap.size) (G.addNul ⟨q,d,st.cnt q d⟩) w:=⟨fun _ _ h=>h,hg,fun _ _ _ _ h=>h,fun _ _ _ _ h=>h,fun _ _ h=>h,fun _ r h=>⟨r,h⟩⟩
 refine⟨G.addNul ⟨q,d,st.cnt q d⟩,hR.change m (bOy _) (fun k e hk hkn=>?_) (fun k hk=>?_) (fun b k t hb=>?_) (hR.virtAt fun k hk=>by simp[Gh.addNul,hk]),fun p=> .bl0 _ p (by simp[Gh.addNul])⟩
 ·simp only[En.set]at hk;split at hk
  ·rename_i hke;subst hke;simp only[bOw]at hk;subst hk;exact .nul sz frz (by simp[Gh.addNul])
  ·rename_i hne;exact(hR.ents k e hk (Gh.knows_of (fun k hk=>by simp[Gh.addNul,hk]) hne hkn)).mono m.four fun b _ _=>⟨rfl,rfl⟩
 ·have hne:k≠⟨q,d,st.cnt q d⟩:=by rintro rfl;simp only[mG]at hk;omega
  have hle:st.cnt k.n k.t<=k.g:=bPb (nZ _ _) hk;obtain⟨f1,f2,f3⟩:=hR.freshG k hle;exact⟨by simp only[En.set,if_neg hne];exact hR.freshEn k hle,f1,by simp only[Gh.addNul,if_neg hne];exact f2,f3⟩
 ·obtain⟨h1,h2,h3⟩:=hR.own b k t hb;exact⟨h1,h2,bPo h3 (nZ _ _)⟩
theorem aZr (hR:Rel P Ξ B S G st N a w)(hs: ∀i,i<xs.length->(xs.getD i .dead).cells.length=sz)
  (h: ∀i j,i<xs.length->j<sz-> ∃c,w.cell? ⟨b,base+i*sz+j,.none⟩=some c/\ aX B S G w.heap.size b (base+i*sz+j)/\ fK c=true/\ VR (aX B S G w.heap.size) Gh.none w ((xs.getD i .dead).cells.getD j .dead) c):
  ∃G',Rel P Ξ B S G' {fr:=st.fr,en:=st.en.set ⟨q,d,st.cnt q d⟩ (some (.blk sz xs true)),cnt:=aC st.cnt q d (st.cnt q d+1)} N a w/\
   VR (aX B S G' w.heap.size) G' w (.bl ⟨q,d,st.cnt q d⟩ 0 xs.length) (.slice (some ⟨b,base,none⟩) xs.length xs.length):=by
 have hf:=hR.freshG ⟨q,d,st.cnt q d⟩ (bOy _);have hg:=Gh.le_addFull (b:=b) (base:=base) (sz:=sz) (C:=xs.length) hf.2.1;have m:jJ (aX B S G w.heap.size) G w (aX B S (G.addFull ⟨q,d,st.cnt q d⟩ b base sz xs.length) w.heap.size) (G.addFull ⟨q,d,st.cnt q d⟩ b base sz xs.length) w:=⟨fun _ _ h=>h,hg,fun _ _ _ _ h=>h,fun _ _ _ _ h=>h,fun _ _ h=>h,fun _ r h=>⟨r,h⟩⟩
 have h1: ∀i j,∃c,i<xs.length->j<sz->w.cell? ⟨b,base+i*sz+j,.none⟩=some c/\ aX B S G w.heap.size b (base+i*sz+j)/\ fK c=true/\ VR (aX B S G w.heap.size) Gh.none w ((xs.getD i .dead).cells.getD j .dead) c:=by
  intro i j
  by_cases hi:i<xs.length
  ·by_cases hj:j<sz
   ·obtain⟨c,hc⟩:=h i j hi hj;exact⟨c,fun _ _=>hc⟩
   ·exact⟨undef,fun _ h=>absurd h hj⟩
  ·exact⟨undef,fun h=>absurd h hi⟩
 obtain⟨c,hc⟩:=Classical.axiomOfChoice fun i=>Classical.axiomOfChoice (h1 i)
 refine⟨_,hR.change m (bOy _) (fun k e hk hkn=>?_) (fun k hk=>?_) (fun b k t hb=>?_) (hR.virtAt fun k hk=>by simp[Gh.addFull,hk]),?_⟩
 ·simp only[En.set]at hk;split at hk
  ·rename_i hke;subst hke;simp only[bOw]at hk;subst hk;exact .full xs b base sz c (by simp[Gh.addFull]) hs (fun i j hi hj=>(hc i j hi hj).1) (fun i j hi hj=>(hc i j hi hj).2.1) (fun i j hi hj=>(hc i j hi hj).2.2.1) (fun i j hi hj=>(hc i j hi hj).2.2.2)
  ·rename_i hne;exact(hR.ents k e hk (Gh.knows_of (fun k hk=>by simp[Gh.addFull,hk]) hne hkn)).mono m.four fun b _ _=>⟨rfl,rfl⟩
 ·have hne:k≠⟨q,d,st.cnt q d⟩:=by rintro rfl;simp only[mG]at hk;omega
  have hle:st.cnt k.n k.t<=k.g:=bPb (nZ _ _) hk;obtain⟨f1,f2,f3⟩:=hR.freshG k hle;exact⟨by simp only[En.set,if_neg hne];exact hR.freshEn k hle,f1,by simp only[Gh.addFull,if_neg hne];exact f2,f3⟩
 ·obtain⟨h1,h2,h3⟩:=hR.own b k t hb;exact⟨h1,h2,bPo h3 (nZ _ _)⟩
 ·have:=VR.bl (T:=aX B S (G.addFull ⟨q,d,st.cnt q d⟩ b base sz xs.length) w.heap.size) (G:=G.addFull ⟨q,d,st.cnt q d⟩ b base sz xs.length) (w:=w) ⟨q,d,st.cnt q d⟩ 0 xs.length b base sz xs.length (by simp[Gh.addFull]) (by omega)
  simpa using this
end
theorem aG5 {b:Nat}{t:TypeId}: ∀(vs:List Value) (c:Array Value) (o:Nat) (w:World),w.heap[b]?=some (.cells c t (0,0))->w.setCells b o vs=kG w b (.cells (wr c o vs) t (0,0))
 |[],c,o,w,h=>by rw[World.setCells,wr,aVv h]
 |v::vs,c,o,w,h=>by
  rw[World.setCells,aG0 v h,aG5 vs (c.setIfInBounds o v) (o+1) _ (kU _ (dY h)),aMp,wr]
structure Cs (T:Nat->Nat->Prop) (G0:Gh) (w:World) (sz:Nat) (xs:List Val) (us:List Value):Prop where
 len: ∀i,i<xs.length->(xs.getD i .dead).cells.length=sz
 size:us.length=xs.length*sz
 at': ∀i j,i<xs.length->j<sz-> ∃c,us[i*sz+j]?=some c/\ fK c=true/\ VR T G0 w ((xs.getD i .dead).cells.getD j .dead) c
theorem Cs.nil :Cs T G0 w sz [] []:=⟨fun i hi=>by simp at hi,by simp,fun i j hi=>by simp at hi⟩
variable {us:List Value}
theorem Cs.one (h:Cs T G0 w sz xs us): ∀u∈us,fK u=true:=by
 intro u hu;obtain⟨k,hk,rfl⟩:=List.getElem_of_mem hu;have hk':=hk;rw[h.size]at hk';obtain⟨h1,h2,h3⟩:=aZp hk';obtain⟨c,hc,ho,_⟩:=h.at' _ _ h1 h2;rw[<-h3,bP7 hk,bOw]at hc;rw[hc];exact ho
variable {G':Gh}{T':Nat->Nat->Prop}{w':World}
theorem Cs.mono (m:jJ T G w T' G' w')(h:Cs T (G.atq q) w sz xs us):Cs T' (G'.atq q) w' sz xs us:=
 ⟨h.len,h.size,fun i j hi hj=>by
  obtain⟨c,h1,h2,h3⟩:=h.at' i j hi hj;exact⟨c,h1,h2,h3.mono (m.atq q)⟩⟩
theorem Cs.into (h:Cs T Gh.none w sz xs us)(G0:Gh):Cs T G0 w sz xs us:=
 ⟨h.len,h.size,fun i j hi hj=>let ⟨c,h1,h2,h3⟩:=h.at' i j hi hj;⟨c,h1,h2,h3.into _⟩⟩
theorem Cs.append {vs:List Value}(h:Cs T G0 w sz xs us)(k:Cs T G0 w sz ys vs):Cs T G0 w sz (xs++ys) (us++vs):=by
 refine⟨fun i hi=>?_,by simp[h.size,k.size,bQj],fun i j hi hj=>?_⟩
 ·rw[vK];split
  ·exact h.len i (by assumption)
  ·simp at hi;exact k.len _ (by omega)
 ·rw[vK];split
  ·rename_i hlt;obtain⟨c,h1,h2⟩:=h.at' i j hlt hj;exact⟨c,by rw[bR3 (by rw[h.size];exact vZ hlt hj)];exact h1,h2⟩
  ·rename_i hge
   simp at hi
   obtain⟨c,h1,h2⟩:=k.at' (i-xs.length) j (by omega) hj
   refine⟨c,?_,h2⟩
   have he:i*sz+j-us.length=(i-xs.length)*sz+j:=by
    rw[h.size,Nat.sub_mul];have:xs.length*sz<=i*sz:=bP5 _ (by omega)
    omega
   rw[List.getElem?_append_right (by rw[h.size];have:xs.length*sz<=i*sz:=bP5 _ (by omega);omega),he];exact h1
theorem Rd.cs (h:Rd T G0 w sz xs b off):Cs T G0 w sz xs (rdl w b off (xs.length*sz)):=
 ⟨h.len,aEd _ _ _ _,fun _ _ hi hj=>h.at hi hj⟩
theorem oP (z:Array Value)(n:Nat):(Builtin.zeroCells z n).size=n*z.size:=by simp[Builtin.zeroCells]
theorem dbl {bytes:Nat}(hc:cap<n)(hn:n<=16777216+16777216)(hb:bytes<=1048576):Builtin.nextslicecap n cap*bytes<=281474976710656:=by
 refine growslice_fits hc ?_
 have:=Nat.mul_le_mul hn hb;omega
variable {p:Option Addr}{C m:Nat}{k:Key}{ts:Array TypeId}{v:Value}{call:bH}
section
variable {o:Oper}
theorem bF3 (hR:Rel P Ξ B S G st N a w){i:TypeInfo}(ht:P.underlying t=some (.slice e)){y:Value}(hy:VR (aX B S G w.heap.size) G w Y y)
  (h:iN st.en Y=some (ys,rs)) (hh:cY i.size ys=true): ∃news,Src P i.size t y ys.length news w/\ Cs (aX B S G w.heap.size) Gh.none w i.size ys news:=by
 obtain⟨q,cap,rfl,h0⟩:=aW4 hR hy h;have nil:ys=[]-> ∃news,Src P i.size t (.slice q ys.length cap) ys.length news w/\ Cs (aX B S G w.heap.size) Gh.none w i.size ys news:=by
  rintro rfl
  refine⟨[],?_,Cs.nil⟩
  cases q with
  |none=>exact Src.ofNil w ht cap
  |some q=>exact Src.ofSlice w ht q 0 cap [] (by simp) (by simp) (by simp)
 rcases h0 with h0|⟨b,off,sz,rfl,hrd⟩
 ·exact nil h0
 ·rcases xW hrd.len hh with h0|rfl
  ·exact nil h0
  ·exact⟨_,Src.ofSlice w ht _ _ _ _ (aEd _ _ _ _) hrd.news (fun u hu=>aI1 (hrd.cs.one u hu)),hrd.cs⟩
theorem aC6 (hR:Rel P Ξ B S G st N a w){i:TypeInfo}{z:Value}(ht:P.underlying t=some (.slice e))(hi:P.info? e=some i)(hz:i.zero=some z)(hzs:z.cells.size=i.size)(hby:i.bytes<=1048576)
     {olds news:List Value} {y:Value}  (hold:(Builtin.firstCells i.size xs.length (.slice p xs.length cap)).run P w.drew= .ok olds.toArray w.drew)
  (hx:Cs (aX B S G w.heap.size) (G.atq q) w i.size xs olds) (hs:Src P i.size t y ys.length news w) (hy:Cs (aX B S G w.heap.size) Gh.none w i.size ys news) (hg:cap<xs.length+ys.length) (hsm:xs.length+ys.length<=16777216):
  ∃G' x w',(Builtin.append_ #[t,t] ty #[.slice p xs.length cap,y]).run P w= .ok x w'/\
   Rel P Ξ B S G' {fr:=st.fr,en:=st.en.set ⟨q,d,st.cnt q d⟩ (some (.blk i.size (xs++ys) frz)),cnt:=aC st.cnt q d (st.cnt q d+1)} N a w'/\
   VR (aX B S G' w'.heap.size) G' w' (.bl ⟨q,d,st.cnt q d⟩ 0 (xs.length+ys.length)) x/\ Below B w w':=by
 have hrun:=run_append_grow_src w t t ty e i z ht hi hz p xs.length cap olds hold y ys.length news hs hg (by omega) (dbl hg (by omega) hby)
 have hbd:Below w.heap.size w w.drew:=(Below.refl _ _).drew;have hcs:=(hx.append (hy.into _)).mono (qX (B:=B) (S:=S) (G:=G) hbd);have hR':=hR.below hbd;have hge:=grownCap_ge w (xs.length+ys.length) cap e;obtain⟨G',h1,h2⟩:=aZq (q:=q) (d:=d) (frz:=frz) (e:=e) hR' (zs:=xs++ys) (c:=(olds++news).toArray++Builtin.zeroCells z.cells (grownCap w (xs.length+ys.length) cap e-(xs.length+ys.length))) (cap:=grownCap w (xs.length+ys.length) cap e)
  hcs.len (fun i' j hi' hj=>by
   obtain⟨c,h1,h2,h3⟩:=hcs.at' i' j hi' hj
   refine⟨c,?_,h2,h3⟩
   rw[Array.getElem?_append_left (by rw[List.size_toArray,hcs.size];exact vZ hi' hj)];simpa using h1) (by simp;omega) (by
   rw[bRo,List.size_toArray,hcs.size,oP,hzs,bPg,<-bQj];exact bP5 _ (by omega))
 refine⟨G',_,_,hrun,h1,by simpa using h2,(Below.refl B w).drew.alloc hR.size _⟩
theorem aBr {size:Nat}(w:World):(Builtin.firstCells size 0 (.slice p 0 cap)).run P w= .ok ([]:List Value).toArray w:=by
 cases p with
 |none=>exact run_firstCells_none w size 0 0 cap
 |some q=>exact run_firstCells_some w size 0 q 0 cap [] (by simp) (by simp)
theorem aZs (hR:Rel P Ξ B S G st N a w){news:List Value}{f:Bool}{thr:Nat}{c:Array Value}(he:st.en k=some (.blk sz xs f))
  (hown:G.own b=some (k,thr)) (h:w.heap[b]?=some (.cells c ty (0,0))) (hC':base+C*sz<=c.size) (hthr:thr=if f then base+xs.length*sz else base)
  (hs: ∀i,i<xs.length->(xs.getD i .dead).cells.length=sz)
  (ho: ∀i j,i<xs.length->j<sz->fK (c.getD (base+i*sz+j) undef)=true)
  (hkq:k.deep=true->q=3) (hv: ∀i j,i<xs.length->j<sz->VR (aX B S G w.heap.size) (G.at k) w ((xs.getD i .dead).cells.getD j .dead) (c.getD (base+i*sz+j) undef))
  (hy:Cs (aX B S G w.heap.size) Gh.none w sz ys news) (hoff:off<=xs.length) (hroom:xs.length+ys.length<=C):
  ∃G',Rel P Ξ B S G' {fr:=st.fr,en:=(st.en.set k none).set ⟨q,d,st.cnt q d⟩ (some (.blk sz (xs.drop off++ys) f)),cnt:=aC st.cnt q d (st.cnt q d+1)} N a (kG w b (.cells (wr c (base+xs.length*sz) news) ty (0,0)))/\
   VR (aX B S G' (kG w b (.cells (wr c (base+xs.length*sz) news) ty (0,0))).heap.size) G' (kG w b (.cells (wr c (base+xs.length*sz) news) ty (0,0))) (.bl ⟨q,d,st.cnt q d⟩ 0 (xs.length-off+ys.length))
    (.slice (some ⟨b,base+off*sz,none⟩) (xs.length-off+ys.length) (C-off)):=by
 obtain⟨hB,hlt,hk⟩:=hR.own b k thr hown;have hf:=hR.freshG ⟨q,d,st.cnt q d⟩ (bOy _);let nk:Key:=⟨q,d,st.cnt q d⟩;have hne:k≠nk:=by rintro rfl;simp only[nk]at hk;omega
 have hmul:base+off*sz<=base+xs.length*sz:=by have:=bP5 sz hoff;omega
 have hfit:base+xs.length*sz+news.length<=c.size:=by
  rw[hy.size];have:=bP5 sz hroom;rw[bQj]at this;omega
 let thr':=if f then base+off*sz+(xs.length-off+ys.length)*sz else base+off*sz
 have htt:thr<=thr':=by
  simp only[hthr,thr'];cases f with
  |false=>simp
  |true=>
   simp only[if_true];rw[bQj,Nat.sub_mul];have:=bP5 sz hoff;omega
 let G':Gh:={G.addFull nk b (base+off*sz) sz (C-off)with own:=fun b'=>if b'=b then some (nk,thr')else G.own b'}
 let w':=kG w b (.cells (wr c (base+xs.length*sz) news) ty (0,0));have hsz:w'.heap.size=w.heap.size:=nH _ _ _;have hg:G.le G':=⟨fun k' b' h=>h,(Gh.le_addFull hf.2.1).blk,fun k' b' h=>h⟩
 have hnew:w'.heap[b]?=some (.cells (wr c (base+xs.length*sz) news) ty (0,0)):=kU _ hlt;have hle:thr<=base+xs.length*sz:=by
  rw[hthr];split
  ·exact bOy _
  ·omega
 have m:jJ (aX B S G w.heap.size) G w (aX B S G' w'.heap.size) G' w':=by
  refine⟨fun b' o' hst=>?_,hg,fun b' o' u hst hu=>?_,fun r es cl hst hr=>?_,fun b' ds h'=>by
   by_cases hb:b'=b
   ·subst hb;rw[h]at h';cases h'
   ·rw[fB _ hb];exact h',fun b' r h'=>by
   by_cases hb:b'=b
   ·subst hb;rw[h]at h';cases h'
   ·exact⟨r,by rw[fB _ hb];exact h'⟩⟩
  ·rw[hsz];obtain⟨h1,h2⟩:=hst
   refine⟨h1,h2.imp id fun h2=>⟨h2.1,?_⟩⟩
   by_cases hb:b'=b
   ·subst hb;have h3:=h2.2;rw[hown]at h3;have h4:G'.own b'=some (nk,thr'):=by simp[G']
    rw[h4];exact bPo h3 htt
   ·simp only[G',if_neg hb];exact h2.2
  ·by_cases hb:b'=b
   ·subst hb;have ho':o'<thr:=by
     rcases hst with⟨_,⟨h,_⟩|⟨_,h⟩⟩
     ·omega
     ·rw[hown]at h;exact h
    rw[lY hnew,aC3 _ _ _ _ hfit,if_neg (by omega)]
    rw[lY h]at hu;exact hu
   ·rw[pT (fB _ hb)];exact hu
  ·by_cases hb:r=b
   ·subst hb;rw[h]at hr;cases hr
   ·rw[fB _ hb];exact hr
 have hlen:(xs.drop off++ys).length=xs.length-off+ys.length:=by simp
 refine⟨G',hR.change m (by rw[hsz];exact bOy _) (fun k' e hk' hkn=>?_) (fun k' hk'=>?_) (fun b' k' t hb'=>?_) (hR.virtAt fun k hk=>by simp[G',Gh.addFull,nk,hk]),?_⟩
 ·simp only[En.set]at hk'
  split at hk'
  ·rename_i hke;simp only[bOw]at hk';subst hk';rw[hke];have hget: ∀i j,i<(xs.drop off++ys).length->j<sz-> ∃u,(wr c (base+xs.length*sz) news)[base+off*sz+i*sz+j]?=some u/\ fK u=true/\ VR (aX B S G w.heap.size) (G.atq q) w (((xs.drop off++ys).getD i .dead).cells.getD j .dead) u:=by
    intro i j hi hj;rw[hlen]at hi;have e0:base+off*sz+i*sz+j=base+(off+i)*sz+j:=by rw[bQj];omega
    rw[vK,aC3 _ _ _ _ hfit,e0]
    by_cases hl:i<(xs.drop off).length
    ·simp only[bRb]at hl;have h3:off+i<xs.length:=by omega
     have h4:=vZ h3 hj;rw[if_pos (show i<(xs.drop off).length by simpa using hl),if_neg (by omega)]
     have h5:base+(off+i)*sz+j<c.size:=by have:=hy.size;omega
     refine⟨c.getD (base+(off+i)*sz+j) undef,by simp[bPk h5,bPc],ho _ _ h3 hj,?_⟩
     have e1:(xs.drop off).getD i .dead=xs.getD (off+i) .dead:=by simp[bO2,bR1]
     rw[e1];exact(hv _ _ h3 hj).shift hkq
    ·rw[if_neg hl];simp only[bRb]at hl⊢;have hi':i-(xs.length-off)<ys.length:=by omega
     obtain⟨u,h1,h2,h3⟩:=hy.at' _ j hi' hj;have e1:(off+i)*sz=xs.length*sz+(i-(xs.length-off))*sz:=by rw[<-bQj];congr 1;omega
     have h4:=vZ hi' hj;rw[if_pos ⟨by omega,by rw[hy.size];omega⟩,show base+(off+i)*sz+j-(base+xs.length*sz)=(i-(xs.length-off))*sz+j by omega]
     exact⟨u,h1,h2,h3.into _⟩
   have hget': ∀i j,i<(xs.drop off++ys).length->j<sz->fK ((wr c (base+xs.length*sz) news).getD (base+off*sz+i*sz+j) undef)=true/\
     VR (aX B S G w.heap.size) (G.atq q) w (((xs.drop off++ys).getD i .dead).cells.getD j .dead) ((wr c (base+xs.length*sz) news).getD (base+off*sz+i*sz+j) undef):=fun i j hi hj=>by
    obtain⟨u,h1,h2,h3⟩:=hget i j hi hj;simp only[bPc,h1,bPp];exact⟨h2,h3⟩
   refine .blk _ f b (base+off*sz) sz (C-off) thr' _ ty (by simp[G',Gh.addFull,nk]) hB hnew (by rw[hlen];omega) (by
     rw[aD7,Nat.sub_mul];have:=bP5 sz (show off<=C by omega);omega) (fun i hi=>?_)
    (fun i j hi hj=>(hget' i j hi hj).1) (fun i j hi hj=>(hget' i j hi hj).2.mono (m.atq q)) (by simp[G',nk]) (by simp only[thr',hlen])
   rw[vK];split
   ·rename_i hl;simp at hl;have e1:(xs.drop off).getD i .dead=xs.getD (off+i) .dead:=by simp[bO2,bR1]
    rw[e1];exact hs _ (by omega)
   ·rename_i hl;rw[hlen]at hi;simp at hl;exact hy.len _ (by simp;omega)
  ·rename_i hn1
   split at hk'
   ·cases hk'
   ·rename_i hn2
    refine(hR.ents k' e hk' (Gh.knows_of (nk:=nk) (fun k hk=>by simp[G',Gh.addFull,hk]) hn1 hkn)).mono m.four fun b' _ hb'=>?_
    have hb:b'≠b:=by
     rintro rfl
     rcases hb' with⟨t,hb'⟩|⟨hb',_⟩
     ·rw[hown]at hb';simp only[bOw,bO1]at hb';exact hn2 hb'.1.symm
     ·rw[hown]at hb';cases hb'
    exact⟨fB _ hb,by simp only[G',if_neg hb]⟩
 ·have hne':k'≠nk:=by rintro rfl;simp only[nk,mG]at hk';omega
  have hle':st.cnt k'.n k'.t<=k'.g:=bPb (nZ _ _) hk';obtain⟨f1,f2,f3⟩:=hR.freshG k' hle'
  refine⟨?_,f1,by simp only[G',Gh.addFull,if_neg hne'];exact f2,f3⟩
  simp only[En.set];rw[if_neg hne'];split
  ·rfl
  ·exact hR.freshEn k' hle'
 ·simp only[G']at hb';rw[hsz]
  split at hb'
  ·rename_i hbb;simp only[bOw,bO1]at hb';obtain⟨rfl,_⟩:=hb';subst hbb;exact⟨hB,hlt,by simp only[nk,mG];omega⟩
  ·obtain⟨h1,h2,h3⟩:=hR.own b' k' t hb';exact⟨h1,h2,bPo h3 (nZ _ _)⟩
 ·have:=VR.bl (T:=aX B S G' w'.heap.size) (G:=G') (w:=w') nk 0 (xs.length-off+ys.length) b (base+off*sz) sz (C-off) (by simp[G',Gh.addFull,nk]) (by omega)
  simpa using this
theorem sW {o':Obj}(hB:B<=b):Below B w (kG w b o'):=
 ⟨rfl,rfl,rfl,by rw[nH];exact bOy _,fun k hk=>fB _ (by omega)⟩
theorem vL (ho:o.op= .call {callee:= .builtin .append,args:= #[x,y],argTypes:=ts})
  (h:(Builtin.append_ ts o.type #[a.eval x,a.eval y]).run P w= .ok v w'):(execOp a.eval o).run P w= .ok (.value v) w':=by
 simp[execOp,ho,resolve,invoke,builtin,h]
theorem aF2 :(xs.drop off).getD i .dead=xs.getD (off+i) .dead:=by simp[bO2,bR1]
theorem aOm (hR:Rel P Ξ B S G st N a w){i:TypeInfo}{zv:Value}{news:List Value}{f:Bool}
  (ho:o.op= .call {callee:= .builtin .append,args:= #[x,y],argTypes:= #[t,t]}) (ht:P.underlying t=some (.slice e)) (hi:P.info? e=some i) (hzv:i.zero=some zv) (hzs:zv.cells.size=i.size) (hbe:i.bytes<=1048576)
  (hs:Src P i.size t (a.eval y) ys.length news w) (hcy:Cs (aX B S G w.heap.size) Gh.none w i.size ys news)
  (hle: ∀{p:Option Addr} {m c:Nat},m<=c->ys=[]->(Builtin.append_ #[t,t] o.type #[.slice p m c,a.eval y]).run P w= .ok (.slice p m c) w)
  (vx:VR (aX B S G w.heap.size) G w (.bl k off len) (a.eval x)) (hk:st.en k=some (.blk i.size xs f)) (hkq:k.deep=true->q=3) (hc1:off+len=xs.length) (hc2:len+ys.length<=16777216):
  eK P Ξ B S st N a w o d {v:= .bl ⟨q,d,st.cnt q d⟩ 0 (len+ys.length),ws:=[.ent k none,.ent ⟨q,d,st.cnt q d⟩ (some (.blk i.size (xs.drop off++ys) f))],rs:= .val k:: .flag k::rs,bump:=true} q:=by
 have hE:=hR.ents k _ hk vx.knows_bl;have hRd:=hR.drop k;have hlen:(xs.drop off).length=len:=by simp;omega
 have empty: ∀p,a.eval x= .slice p 0 0->xs.drop off=[]->eK P Ξ B S st N a w o d
   {v:= .bl ⟨q,d,st.cnt q d⟩ 0 (len+ys.length),ws:=[.ent k none,.ent ⟨q,d,st.cnt q d⟩ (some (.blk i.size (xs.drop off++ys) f))],rs:= .val k:: .flag k::rs,bump:=true} q:=by
  intro p hp h0;rw[h0]at hlen⊢;simp only[bPe]at hlen;subst hlen
  by_cases hn:ys=[]
  ·subst hn;obtain⟨G',g1,g2⟩:=aVy (q:=q) (d:=d) hRd i.size f;exact jC (x:= .slice p 0 0) (vL ho (by rw[hp];exact hle (bOy 0) rfl)) (by simpa[St.mem,W.applyAll,W.apply]using g1) (by simpa using g2 p) (Below.refl _ _)
  ·have hpos:0<ys.length:=bRv.2 hn;obtain⟨G',xv,w',hrun,g1,g2,g3⟩:=aC6 (q:=q) (d:=d) (ty:=o.type) (frz:=f) (p:=p) (cap:=0) (xs:=[]) (olds:=[]) hRd ht hi hzv hzs hbe (aBr w.drew) Cs.nil hs hcy (by simpa using hpos) (by simpa using hc2)
   exact jC (vL ho (hp▸hrun)) (by simpa[St.mem,W.applyAll,W.apply]using g1) (by simpa using g2) g3
 have anew: ∀b base C,G.blk k=some (some (b,base,i.size,C))->a.eval x= .slice (some ⟨b,base+off*i.size,.none⟩) len (C-off)->C-off<len+ys.length->eK P Ξ B S st N a w o d
   {v:= .bl ⟨q,d,st.cnt q d⟩ 0 (len+ys.length),ws:=[.ent k none,.ent ⟨q,d,st.cnt q d⟩ (some (.blk i.size (xs.drop off++ys) f))],rs:= .val k:: .flag k::rs,bump:=true} q:=by
  intro b base C hb hp hgt;have hrd:Rd (aX B S G w.heap.size) (G.atq q) w i.size (xs.drop off) b (base+off*i.size):=by
   refine⟨fun i' hi'=>?_,fun i' j hi' hj=>?_⟩<;>rw[aF2]<;>rw[hlen]at hi'
   ·exact(hE.elem hb (i:=off+i') (by omega)).1
   ·obtain⟨c,e1,e2,e3⟩:=(hE.elem hb (i:=off+i') (by omega)).2 j hj
    exact⟨c,by rw[show base+off*i.size+i'*i.size+j=base+(off+i')*i.size+j by rw[bQj];omega];exact e1,e2,e3.shift hkq⟩
  rw[<-hlen]at hp hgt hc2⊢;obtain⟨G',xv,w',hrun,g1,g2,g3⟩:=aC6 (q:=q) (d:=d) (ty:=o.type) (frz:=f) hRd ht hi hzv hzs hbe (run_firstCells_some w.drew i.size _ ⟨b,base+off*i.size,.none⟩ (xs.drop off).length (C-off) _ (aEd _ _ _ _) (by simpa using hrd.news)) hrd.cs hs hcy hgt hc2
  exact jC (vL ho (hp▸hrun)) (by simpa[St.mem,W.applyAll,W.apply]using g1) g2 g3
 generalize hxv:a.eval x=xv at vx;cases vx with
 |bl0 _ p hb=>
  refine empty p hxv ?_
  cases hE with
  |nul _ _ _=>simp
  |blk _ _ b base sz C thr c t' hb1=>rw[hb]at hb1;cases hb1
  |full _ b base sz c hb1=>rw[hb]at hb1;cases hb1
 |ble _ p b base sz C hb=>
  refine empty p hxv ?_
  cases hE with
  |nul _ _ hb1=>rw[hb]at hb1;cases hb1
  |blk _ _ b base sz C' thr c t' hb1 _ _ hC=>rw[hb]at hb1;simp only[bOw,bO1]at hb1;rw[bR4];omega
  |full _ b base sz c hb1=>rw[hb]at hb1;simp only[bOw,bO1]at hb1;rw[bR4];omega
 |bl _ _ _ b base sz C hb hl=>
  cases hE with
  |nul _ _ hb1=>rw[hb]at hb1;cases hb1
  |blk _ _ b1 base1 _ C1 thr c t1 hb1 hB hh1 hC hC' hs1 ho1 hv1 hown hthr=>
   have hbb:=hb1;rw[hb]at hb1;simp only[bOw,bO1]at hb1;obtain⟨rfl,rfl,rfl,rfl⟩:=hb1
   by_cases hroom:xs.length+ys.length<=C
   ·obtain⟨G',g1,g2⟩:=aZs (q:=q) (d:=d) (off:=off) hR hk hown hh1 hC' hthr hs1 ho1 hkq hv1 hcy (by omega) hroom
    have hxl:base+off*i.size+len*i.size=base+xs.length*i.size:=by rw[bQo,<-bQj,hc1]
    have hfit:base+xs.length*i.size+news.length<=c.size:=by
     rw[hcy.size];have:=bP5 i.size hroom;rw[bQj]at this;omega
    have hrun:=run_append_room_src (P:=P) w t t o.type e i ht hi b (base+off*i.size) len (C-off) (a.eval y) ys.length news hs (by omega)
     (fun j hj=>by rw[hxl,lY hh1];simp;omega)
     (fun j hj=>by simp[World.frozen?,hh1])
    rw[hxl,aG5 _ _ _ _ hh1]at hrun;rw[show xs.length-off=len by omega]at g2
    exact jC (vL ho (hxv▸hrun)) (by simpa[St.mem,W.applyAll,W.apply]using g1) g2 (sW hB)
   ·exact anew b base C hbb hxv (by omega)
  |full _ b1 base1 _ c hb1 hs1 hcell hst ho1 hv1=>
   have hbb:=hb1;rw[hb]at hb1;simp only[bOw,bO1]at hb1;obtain⟨rfl,rfl,rfl,rfl⟩:=hb1
   by_cases hn:ys=[]
   ·subst hn
    by_cases h0:i.size=0/\ False
    ·exact absurd h0.2 id
    ·obtain⟨G',g1,g2⟩:=aZr (q:=q) (d:=d) (b:=b) (base:=base+off*i.size) (xs:=xs.drop off) (sz:=i.size) hRd (fun i' hi'=>by rw[aF2];rw[hlen]at hi';exact hs1 _ (by omega)) (fun i' j hi' hj=>by
      rw[hlen]at hi';have e0:base+off*i.size+i'*i.size+j=base+(off+i')*i.size+j:=by rw[bQj];omega
      rw[aF2,e0];exact⟨c (off+i') j,hcell _ _ (by omega) hj,hst _ _ (by omega) hj,ho1 _ _ (by omega) hj,hv1 _ _ (by omega) hj⟩)
     have hrun:(execOp a.eval o).run P w= .ok (.value (.slice (some ⟨b,base+off*i.size,.none⟩) len (xs.length-off))) w:=vL ho (by rw[hxv];exact hle (by omega) rfl)
     rw[show xs.length-off=len by omega]at hrun
     rw[hlen]at g2;exact jC hrun (by simpa[St.mem,W.applyAll,W.apply]using g1) (by simpa using g2) (Below.refl _ _)
   ·have hpos:0<ys.length:=bRv.2 hn;exact anew b base xs.length hbb hxv (by omega)
theorem Rel.trunc (hR:Rel P Ξ B S G st N a w){f:Bool}(hk:st.en k=some (.blk sz xs f))(hm:m=xs.length \/f=false/\ m<=xs.length):
  Rel P Ξ B S G {st with en:=st.en.set k (some (.blk sz (xs.take m) f))} N a w:=by
 refine⟨hR.size,hR.tmps,hR.frame,hR.marks,fun k' e he hkn=>?_,fun k' hk'=>?_,hR.freshG,hR.own,hR.extra,hR.round,hR.defs,hR.virt⟩
 ·simp only[En.set]at he
  split at he
  ·rename_i hkk;subst hkk;simp only[bOw]at he;subst he;have hE:=hR.ents k' _ hk hkn;rcases hm with rfl|⟨rfl,hm⟩
   ·rw[bQp];exact hE
   ·have hgd: ∀i,i<m->(xs.take m).getD i .dead=xs.getD i .dead:=fun i hi=>by simp[bO2,List.getElem?_take,hi]
    cases hE with
    |nul _ _ h=>rw[List.take_nil];exact .nul _ _ h
    |blk _ _ b base _ C thr c t hb hB h hC hC' hs ho hv hown hthr=>
     have hl:(xs.take m).length=m:=by simp;omega
     refine .blk _ false b base _ C thr c t hb hB h (by omega) hC' (fun i hi=>?_) (fun i j hi hj=>?_) (fun i j hi hj=>?_) hown hthr<;>rw[hl]at hi
     ·rw[hgd i hi];exact hs i (by omega)
     ·exact ho i j (by omega) hj
     ·rw[hgd i hi];exact hv i j (by omega) hj
  ·exact hR.ents k' e he hkn
 ·simp only[En.set];split
  ·rename_i hkk;subst hkk;have:=hR.freshEn k' hk';rw[this]at hk;cases hk
  ·exact hR.freshEn k' hk'
theorem aJd (hR:Rel P Ξ B S G st N a w)(ho:o.op= .call {callee:= .builtin .append,args:= #[x,y],argTypes:= #[t,t]})(ht:P.underlying t=some (.slice e))
  (hz:(gK P e).map List.length=some (P.cellsOf e)) (hby:P.bytesOf e<=1048576) (h1:aO x=some x') (h2:aO y=some y')
  (hev:fJ q d (st.cnt q d) st.en (P.cellsOf e) (St.get st.fr x') (iN st.en (St.get st.fr y'))=some r):eK P Ξ B S st N a w o d r q:=by
 obtain⟨z,hz1,hz2⟩:=bPa.1 hz;obtain⟨i,zv,hi,hzv,hzc⟩:=aOj (P:=P) (w:=w) (T:=aX B S G w.heap.size) (G:=G) hz1;have hsz:P.cellsOf e=i.size:=by simp[Program.cellsOf,hi]
 have hbe:i.bytes<=1048576:=by simpa[Program.bytesOf,hi]using hby
 have hzs:zv.cells.size=i.size:=by rw[hzc.size,hz2,hsz]
 rw[hsz]at hev;have vx:=aU hR h1;have vy:=aU hR h2;simp only[fJ]at hev
 split at hev
 case h_2=>cases hev
 rename_i ys rs hel
 split at hev
 case isFalse=>cases hev
 rename_i hh;obtain⟨news,hs,hcy⟩:=bF3 (i:=i) hR ht vy hel hh;have hle: ∀{p:Option Addr} {m c:Nat},m<=c->ys=[]->(Builtin.append_ #[t,t] o.type #[.slice p m c,a.eval y]).run P w= .ok (.slice p m c) w:=by
  rintro p m c hm rfl
  have:news=[]:=by have:=hcy.size;simpa using this
  subst this;exact run_append_nothing w t t o.type e i ht hi p m c hm _ hs
 split at hev
 ·-- a slice without room
  rename_i xs hX;rw[hX]at vx
  split at hev
  ·rename_i hye;simp only[bOw]at hev;subst hev;have hn:ys=[]:=bRw.1 hye;have hfro:=aI9 vx;obtain⟨p,hp⟩: ∃p,a.eval x= .slice p xs.length xs.length:=by
    generalize a.eval x=xv at hfro;cases hfro with
    |nil p cap h hcap=>subst h;exact⟨p,by rw[hcap rfl];rfl⟩
    |some b off sz cap c hcc hcl hsx hcell hst ho1 hv1=>exact⟨_,by rw[hcl rfl]⟩
   exact bZ (x:= .slice p xs.length xs.length) hR (vL ho (by rw[hp];exact hle (bOy xs.length) hn)) (hp▸vx)
  rename_i hne
  split at hev
  case isFalse=>cases hev
  rename_i hc;simp only[bOw]at hev;subst hev;have hfro:=aI9 vx;have key: ∃p,a.eval x= .slice p xs.length xs.length/\ ∃olds,(Builtin.firstCells i.size xs.length (.slice p xs.length xs.length)).run P w.drew= .ok olds.toArray w.drew/\ Cs (aX B S G w.heap.size) Gh.none w i.size xs olds/\
    (xs=[] \/ ∃b off,p=some ⟨b,off,none⟩/\ ∀i' j,i'<xs.length->j<i.size-> ∃c,w.cell? ⟨b,off+i'*i.size+j,.none⟩=some c/\ aX B S G w.heap.size b (off+i'*i.size+j)/\ fK c=true/\ VR (aX B S G w.heap.size) Gh.none w ((xs.getD i' .dead).cells.getD j .dead) c):=by
   generalize a.eval x=xv at hfro;cases hfro with
   |nil p cap h hcap=>subst h;exact⟨p,by rw[hcap rfl];rfl,[],aBr w.drew,Cs.nil,.inl rfl⟩
   |some b off sz cap c hcc hcl hsx hcell hst ho1 hv1=>
    rcases xW hsx hc.2 with h0|rfl
    ·subst h0;exact⟨_,by rw[hcl rfl],[],aBr w.drew,Cs.nil,.inl rfl⟩
    ·have hrd:Rd (aX B S G w.heap.size) Gh.none w i.size xs b off:=⟨hsx,fun i' j hi' hj=>⟨c i' j,hcell i' j hi' hj,ho1 i' j hi' hj,hv1 i' j hi' hj⟩⟩
     exact⟨_,by rw[hcl rfl],_,run_firstCells_some w.drew i.size xs.length _ _ _ _ (aEd _ _ _ _) (by simpa using hrd.news),hrd.cs,
      .inr ⟨b,off,rfl,fun i' j hi' hj=>⟨c i' j,hcell i' j hi' hj,hst i' j hi' hj,ho1 i' j hi' hj,hv1 i' j hi' hj⟩⟩⟩
  obtain⟨p,hp,olds,hold,hcx,hpl⟩:=key;have hn:ys≠[]:=fun h=>hne (by rw[h];rfl)
  have hpos:0<ys.length:=bRv.2 hn;obtain⟨G',xv,w',hrun,g1,g2,g3⟩:=aC6 (q:=q) (d:=d) (ty:=o.type) (frz:=!xs.isEmpty) hR ht hi hzv hzs hbe hold (hcx.into _) hs hcy (by omega) hc.1
  exact jC (vL ho (hp▸hrun)) (by simpa[St.mem,W.applyAll,W.apply]using g1) g2 g3
 ·-- an own slice
  rename_i k off len hX;rw[hX]at vx
  split at hev
  case h_2=>cases hev
  rename_i sz xs f hk
  split at hev
  case isFalse=>cases hev
  rename_i hc;obtain⟨hc1,hc2,rfl,hkq⟩:=hc;simp only[bOw]at hev;subst hev;have hR':=hR.trunc hk hc1;have hl:off+len=(xs.take (off+len)).length:=by
   rw[bQe];rcases hc1 with h|⟨_,h⟩<;>omega
  have hok:=aOm (q:=q) (d:=d) (rs:=rs) (f:=f) (k:=k) hR' ho ht hi hzv hzs hbe hs hcy hle vx (by simp[En.set]) hkq hl hc2
  have hen: ∀(u v:Option Ent),W.applyAll (st.en.set k u) [.ent k none,.ent ⟨q,d,st.cnt q d⟩ v]=W.applyAll st.en [.ent k none,.ent ⟨q,d,st.cnt q d⟩ v]:=by
   intro u v;simp only[W.applyAll,bRm,bRc,W.apply]
   funext k';simp only[En.set];split
   ·rfl
   ·split<;>rfl
  intro ro m next Q kk
  refine hok ro m next Q fun x w' G' h1 h2 h3=>kk x w' G' ?_ h2 h3
  simp only[St.mem,hen]at h1⊢;exact h1
 ·cases hev
theorem aW5 (hR:Rel P Ξ B S G st N a w)(ho:o.op= .call {callee:= .builtin .append,args:= #[x,y],argTypes:= #[t,t]})(ht:P.underlying t=some (.slice e))
  (hz:(gK P e).map List.length=some (P.cellsOf e)) (hby:P.bytesOf e<=1048576) (h1:aO x=some x') (h2:aO y=some y')
  (hev:eval n call 0 d (st.cnt 0 d) st.en (St.get st.fr) (.append (P.cellsOf e) x' y')=some r):eK P Ξ B S st N a w o d r:=
 aJd hR ho ht hz hby h1 h2 hev
end
variable {vs:List Val}
theorem aJe {y:Val}(hl:off+vs.length<=y.cells.length)(h1: ∀v∈vs,v.cells=[v]):(eV y off vs).cells=setCells y.cells off vs:=by
 cases y with
 |agg cs=>rfl
 |_=>
  simp only[Val.cells,bO7,bPe]at hl;rcases vs with _|⟨v,_|⟨v2,vs⟩⟩
  ·cases off<;>simp[eV,setCells,Val.cells]
  ·cases off with
   |zero=>simp only[eV,setCells,if_pos,Val.cells,List.set];exact h1 v (by simp)
   |succ n=>simp at hl
  ·simp only[bO7]at hl;omega
theorem aOn {ks:List Key}{en:En}(h:k∉ks):W.applyAll en (ks.map .frz) k=en k:=by
 induction ks generalizing en with
 |nil=>rfl
 |cons k0 ks ih=>
  simp only[bP0,not_or]at h;have h2:W.applyAll en ((k0::ks).map .frz)=W.applyAll (W.apply en (.frz k0)) (ks.map .frz):=rfl;rw[h2,ih h.2];simp only[W.apply];cases en k0 with
  |none=>rfl
  |some e=>simp only[En.set,if_neg h.1]
section
variable {o:Oper}
theorem aJf {ws0:List W}{u:Val}(hR':Rel P Ξ B S G' {st with en:=W.applyAll st.en ws0} N a w)
  (ho:o.op= .store t x y) (hi:(P.info? t).isSome=true) (hx:VR (aX B S G' w.heap.size) G' w (.ep k i off) (a.eval x)) (hen:W.applyAll st.en ws0 k=some (.blk sz xs false)) (hY:xs[i]?=some Y) (hl:off+P.cellsOf t<=Y.cells.length)
  (hone:u.one=true) (hwl:u.cells.length=P.cellsOf t) (hv0:VR (aX B S G' w.heap.size) (G'.at k) w u (a.eval y)):
  eK P Ξ B S st N a w o d {v:= .tup [],ws:=ws0++[.elem k i off u.cells],rs:=rs}:=by
 have hy:=hv0.cr hone;generalize hV:u.cells=vs at*;generalize hgx:a.eval x=ux at hx;obtain⟨hi',hgd⟩:=aD9 hY;cases hx with
 |ep _ _ _ b base sz' C hb' hiC=>
 have hE:=hR'.ents k _ hen (Gh.knows_blk hb');cases hE with
 |nul _ _ hb1=>rw[hb']at hb1;cases hb1
 |blk _ _ b1 base1 _ C1 thr c ty hb1 hB hh hC hC' hs1 ho1 hv1 hown hthr=>
  rw[hb']at hb1;simp only[bOw,bO1]at hb1;obtain⟨rfl,rfl,rfl,rfl⟩:=hb1;simp only[bO0,if_false]at hthr;have hthr':=hthr.symm;subst hthr';have hYl:Y.cells.length=sz':=by rw[<-hgd];exact hs1 i hi'
  have hfit:base+i*sz'+off+(a.eval y).cells.toList.length<=c.size:=by
   have h5:i*sz'+sz'<=C*sz':=by rw[<-bQl];exact bP5 _ (by omega)
   have h6:(a.eval y).cells.toList.length=P.cellsOf t:=by rw[bQ4,hy.size,hwl]
   omega
  have hcell1: ∀v∈vs,v.cells=[v]:=by
   intro v hv;obtain⟨j,hj,rfl⟩:=List.getElem_of_mem hv;have e1:=hy.vr j hj;have e2:=hy.one j hj;rw[show vs.getD j .dead=vs[j]by simp[bO2,hj]]at e1
   have:=e1.not_agg e2;generalize vs[j]=q at this;cases q<;>first|rfl|exact absurd rfl (this _)
  have hpc:(eV Y off vs).cells=setCells Y.cells off vs:=aJe (by omega) hcell1
  have hset: ∀m:Nat,m<xs.length->(xs.set i (eV Y off vs)).getD m .dead=if i=m then eV Y off vs else xs.getD m .dead:=fun m hm=>aJb hm
  have hyl:(a.eval y).cells.toList.length=vs.length:=by rw[bQ4,hy.size]
  have hat: ∀m j,m<xs.length->j<sz'-> ∃u,(wr c (base+i*sz'+off) (a.eval y).cells.toList)[base+m*sz'+j]?=some u/\ fK u=true/\
    VR (aX B S G' w.heap.size) (G'.at k) w (((xs.set i (eV Y off vs)).getD m .dead).cells.getD j .dead) u:=by
   intro m j hm hj;rw[aC3 _ _ _ _ hfit,hset m hm];have hin:base+m*sz'+j<c.size:=by
    have h5:m*sz'+sz'<=C*sz':=by rw[<-bQl];exact bP5 _ (by omega)
    omega
   by_cases him:i=m
   ·subst him;rw[if_pos rfl,hpc,bO2,xX _ _ _ _ (by omega)]
    by_cases hr:off<=j/\ j<off+vs.length
    ·rw[if_pos (by omega),if_pos hr,show base+i*sz'+j-(base+i*sz'+off)=j-off by omega]
     have hjo:j-off<vs.length:=by omega
     refine⟨(a.eval y).cells.getD (j-off) undef,?_,hy.one _ hjo,?_⟩
     ·have:j-off<(a.eval y).cells.size:=by rw[hy.size];exact hjo
      simp[Array.getElem?_toList,this]
     ·rw[<-bO2];exact hy.vr _ hjo
    ·rw[if_neg (by omega),if_neg hr]
     refine⟨c.getD (base+i*sz'+j) undef,by simp[bPc,hin],ho1 i j hm hj,?_⟩
     rw[<-bO2];have:=hv1 i j hm hj;rw[hgd]at this;exact this
   ·have hdis: ¬(base+i*sz'+off<=base+m*sz'+j/\ base+m*sz'+j<base+i*sz'+off+(a.eval y).cells.toList.length):=by
     rw[hyl];rcases Nat.lt_or_gt_of_ne him with h|h
     ·have:i*sz'+sz'<=m*sz':=by rw[<-bQl];exact bP5 _ h
      omega
     ·have:m*sz'+sz'<=i*sz':=by rw[<-bQl];exact bP5 _ h
      omega
    rw[if_neg him,if_neg hdis];exact⟨c.getD (base+m*sz'+j) undef,by simp[bPc,hin],ho1 m j hm hj,hv1 m j hm hj⟩
  have hat': ∀m j,m<xs.length->j<sz'->fK ((wr c (base+i*sz'+off) (a.eval y).cells.toList).getD (base+m*sz'+j) undef)=true/\
    VR (aX B S G' w.heap.size) (G'.at k) w (((xs.set i (eV Y off vs)).getD m .dead).cells.getD j .dead) ((wr c (base+i*sz'+off) (a.eval y).cells.toList).getD (base+m*sz'+j) undef):=fun m j hm hj=>by
   obtain⟨u,e1,e2,e3⟩:=hat m j hm hj;simp only[bPc,e1,bPp];exact⟨e2,e3⟩
  have hrel:=hR'.write (e':= .blk sz' (xs.set i (eV Y off vs)) false) (o':= .cells (wr c (base+i*sz'+off) (a.eval y).cells.toList) ty (0,0)) hown hh (fun _ _=> .inl (by simp)) (fun _=>by simp) (fun _ h=>by cases h)
   (fun q hq=>by rw[lY (kU _ (dY hh)),lY hh,aC3 _ _ _ _ hfit,if_neg (by omega)])
   (fun m=> .blk _ false b base sz' C base _ ty hb' hB (kU _ (dY hh)) (by simpa using hC) (by rw[aD7];exact hC')
    (fun q hq=>by
     simp only[bQ1]at hq;rw[hset q hq];split
     ·rw[hpc,oO];exact hYl
     ·exact hs1 q hq)
    (fun q j hq hj=>(hat' q j (by simpa using hq) hj).1) (fun q j hq hj=>(hat' q j (by simpa using hq) hj).2.mono (m.atq k.n)) hown (by simp))
  refine aOf ?_ (G':=G') (w':=kG w b (.cells (wr c (base+i*sz'+off) (a.eval y).cells.toList) ty (0,0))) ?_ rfl (sW hB)
  ·have hrun:=aD8 (P:=P) (t:=t) (o:=base+i*sz'+off) (x:=a.eval y) hh (bQk.1 hi) (by rw[hy.size,hwl]) (fun j hj=>hy.one j (by rw[<-hy.size];exact hj)) (by rw[hy.size];simpa[hyl]using hfit)
   simp[execOp,ho,hgx,Instr.storeAt,Instr.sureAddr,hrun]
  ·have:W.applyAll st.en (ws0++[.elem k i off vs])=(W.applyAll st.en ws0).set k (some (.blk sz' (xs.set i (eV Y off vs)) false)):=by
    simp only[W.applyAll,List.foldl_append]at hen⊢;simp only[bRm,bRc,W.apply,hen,hY]
   simp only[St.mem,this];exact hrel
theorem aLy (hR:Rel P Ξ B S G st N a w){v':Val}{ks:List Key}(ho:o.op= .store t x y)(hi:(P.info? t).isSome=true)(h1:aO x=some x')(h2:aO y=some y')
  (hX:St.get st.fr x'= .ep k i off) (he:st.en k=some (.blk sz xs false)) (hY:xs[i]?=some Y) (hl:off+P.cellsOf t<=Y.cells.length)
  (hs:snap n st.en (St.get st.fr y')=some (v',ks)) (h3:v'.one=true) (h4:v'.cells.length=P.cellsOf t) (hk:k∉ks):
  eK P Ξ B S st N a w o d {v:= .tup [],ws:=ks.map .frz++[.elem k i off v'.wk1.cells],rs:=rs}:=by
 obtain⟨G',hR',hg,hT,hsnap⟩:=xY hR ks;have hx:=aU hR h1;rw[hX]at hx;have hone:v'.wk1.one=true:=by cases v'<;>first|rfl|simp[Val.one]at h3
 have hwl:v'.wk1.cells.length=P.cellsOf t:=by
  rw[<-h4];cases v'<;>first|rfl|simp[Val.wk1,Val.wk0,Val.cells]
 refine aJf hR' ho hi ?_ (by rw[aOn hk,he]) hY hl hone hwl ((hsnap n _ v' _ ks (aU hR h2) hs fun _ h=>h).wk1.into _)
 generalize a.eval x=ux at hx;cases hx with
 |ep _ _ _ b base sz' C hb hiC=>exact .ep _ _ _ b base sz' C (hg.blk _ _ hb) hiC
theorem aLz (hR:Rel P Ξ B S G st N a w)(ho:o.op= .store t x y)(hi:(P.info? t).isSome=true)(h1:aO x=some x')(h2:aO y=some y')
  (hX:St.get st.fr x'= .ep k i off) (he:st.en k=some (.blk sz xs false)) (hY:xs[i]?=some Y) (hl:off+P.cellsOf t<=Y.cells.length) (hd:k.deep=true)
  (h3:(St.get st.fr y').one=true) (h4:(St.get st.fr y').cells.length=P.cellsOf t):
  eK P Ξ B S st N a w o d {v:= .tup [],ws:=[.elem k i off (St.get st.fr y').cells],rs:=rs}:=by
 have hx:=aU hR h1;rw[hX]at hx;have hv:=aU hR h2;have:VR (aX B S G w.heap.size) (G.at k) w (St.get st.fr y') (a.eval y):=by
  have:G.at k=G:=by simp only[Key.deep,bSi]at hd;simp[Gh.at,Gh.atq,hd]
  rw[this];exact hv
 exact aJf (ws0:=[]) hR ho hi hx he hY hl h3 h4 this
end
def aEe (w:World)(S:Nat->Nat->Prop)(w':World)(b o:Nat):Prop:=b<w'.heap.size/\ (b<w.heap.size->S b o)
def bCu (B:Nat)(T:Nat->Nat->Prop)(w:World)(sz:Nat)(xs:List Val)(v:Value):Prop:=
 (xs=[]/\ ∃a,v= .slice a 0 0) \/ ∃(b base C:Nat) (c:Array Value) (t:TypeId),B<=b/\ v= .slice (some ⟨b,base,.none⟩) xs.length C/\ w.heap[b]?=some (.cells c t (0,0))/\ xs.length<=C/\ base+C*sz<=c.size/\
  (∀i,i<xs.length->(xs.getD i .dead).cells.length=sz)/\ (∀i j,i<xs.length->j<sz->fK (c.getD (base+i*sz+j) undef)=true)/\
  ∀i j,i<xs.length->j<sz->VR (fun b' o=>T b' o/\ (b'=b->o<base)) Gh.none w ((xs.getD i .dead).cells.getD j .dead) (c.getD (base+i*sz+j) undef)
def aL0 (B:Nat)(T:Nat->Nat->Prop)(w:World)(r:Val)(v:Value):Prop:=
 match r with
 | .own sz xs=>bCu B T w sz xs v
 |r=>VR T Gh.none w r v
theorem aL0.vr {r:Val}(h:VR T Gh.none w r v):aL0 B T w r v:=by
 cases r<;>first|exact h|cases h
def lJ (P:Program)(call:bH):Prop:= ∀f args r,call f args=some r->
 (∃fn,P.funcs[f]?=some fn∧(fn.name== "runtime.NumGoroutine")=false∧fn.body.isNone=false)∧
 ∀(S:Nat->Nat->Prop) (w:World) (vals:Array Value),(∀b o,S b o->b<w.heap.size)->tM S w->vals.size=args.length->
  (∀i,i<args.length->VR S Gh.none w (args.getD i .dead) (vals.getD i undef))->
  Calls P f vals w fun e w'=> ∃v,e= .returned v/\ Below w.heap.size w w'/\ aL0 w.heap.size (aEe w S w') w' r v
theorem xZ {v:Val}{x:Value}(h:VR T G w v x)(hf:v.flat0=true):VR T' G' w' v x:=by
 cases h with
 |fn f a b x y ha hb hx hy=>
  cases a with
  |nil=>cases b with
   |nil=>exact .fn f [] [] x y ha hb (fun i hi=>by simp at hi) (fun i hi=>by simp at hi)
   |cons=>simp[Val.flat0]at hf
  |cons=>simp[Val.flat0]at hf
 |_=>first|(simp[Val.flat0]at hf;done)|constructor
theorem tR {v:Val}{x:Value}(h:VR T G w v x)(hf:v.flat1=true):VR T' G' w' v x:=by
 have agg: ∀{cs:List Val} {x:Value},VR T G w (.agg cs) x->cs.all Val.flat0=true->VR T' G' w' (.agg cs) x:=by
  intro cs x h hf;cases h with
  |agg _ y h1 ho hv=>
   refine .agg cs y h1 ho fun i hi=>xZ (hv i hi) ?_
   have:=bO4.1 hf cs[i] (bO6 hi)
   simpa[bO2,hi]using this
 cases v with
 |agg cs=>exact agg h hf
 |ifc t v=>
  cases h with
  |ifc _ _ y h=>
   refine .ifc t v y ?_
   cases v with
   |agg cs=>exact agg h hf
   |_=>exact xZ h hf
 |_=>exact xZ h hf
theorem aMt {v:Val}{x:Value}(h:VR T G w v x)(hf:v.flat=true):VR T' G' w' v x:=by
 cases v with
 |tup vs=>
  cases h with
  |tup _ y h1 hv=>
   refine .tup vs y h1 fun i hi=>tR (hv i hi) ?_
   have:=bO4.1 hf vs[i] (bO6 hi)
   simpa[bO2,hi]using this
 |_=>exact tR h hf
variable {ro:Option Nat}{f:Nat}{A Z:List Val}{F:Operand}{c:Call}{name:String}
section
variable {o:Oper}
theorem aVz (hR:Rel P Ξ B S G st N a w){e:Ent}(he:st.en k=some e):Cov (fun b _=>b<w.heap.size) G k e:=by
 by_cases hkn:G.knows k
 case neg=>
  obtain⟨u1,u2,u3⟩:=Gh.not_knows hkn;cases e with
  |box cs f=>intro b hb;rw[u1]at hb;cases hb
  |blk sz xs f=>intro b base sz C hb;rw[u2]at hb;cases hb
  |map ks vs f=>intro r hr;rw[u3]at hr;cases hr
  |loop=>trivial
  |iter=>trivial
 have h:=hR.ents k e he hkn;cases h with
 |box cs frz b c t hb hB hh=>intro b' hb' j _;rw[hb]at hb';simp only[bOw]at hb';subst hb';exact dY hh
 |nul sz frz hn=>intro b base sz C hb i j hi;simp at hi
 |blk xs frz b base sz C thr c t hb hB hh=>
  intro b' base' sz' C' hb' i j hi hj;rw[hb]at hb';simp only[bOw,bO1]at hb';obtain⟨rfl,_⟩:=hb';exact dY hh
 |full xs b base sz c hb hs hh ht=>
  intro b' base' sz' C' hb' i j hi hj;rw[hb]at hb';simp only[bOw,bO1]at hb';obtain⟨rfl,rfl,rfl,rfl⟩:=hb';exact aOc (hh i j hi hj)
 |map ks vs frz r es cl hr hB hh=>intro r' hr';rw[hr]at hr';simp only[bOw]at hr';subst hr';exact dY hh
 |loop=>trivial
 |iter=>trivial
theorem pG {f:FuncId}{args:Array Value}{R:Ending->World->Prop}(h:Calls P f args w R):CallsIn (Fx ro) m P f args w R:=
 (callsIn_wide (n:=m)).2 h
theorem aV0 (hR:Rel P Ξ B S G st N a w)(hb:Below w.heap.size w w'){S':Nat->Nat->Prop}(hS: ∀b o,b<w.heap.size->S' b o->aX B S G w.heap.size b o)
  (h:bCu w.heap.size (aEe w S' w') w' sz xs v):
  ∃G',Rel P Ξ B S G' {fr:=st.fr,en:=st.en.set ⟨0,d,st.cnt 0 d⟩ (some (.blk sz xs false)),cnt:=aC st.cnt 0 d (st.cnt 0 d+1)} N a w'/\ VR (aX B S G' w'.heap.size) G' w' (.bl ⟨0,d,st.cnt 0 d⟩ 0 xs.length) v:=by
 rcases h with⟨rfl,p,rfl⟩|⟨b,base,C,c,t,hB,rfl,hh,hC,hC',hs,ho,hv⟩
 ·obtain⟨G',h1,h2⟩:=aVy (d:=d) (hR.below hb) sz false;exact⟨G',h1,h2 p⟩
 have hf:=hR.freshG ⟨0,d,st.cnt 0 d⟩ (bOy _);have hg:=Gh.le_addBlk (b:=b) (base:=base) (sz:=sz) (C:=C) (thr:=base) hf.2.1;have hlt: ∀{b' k t},G.own b'=some (k,t)->b'<w.heap.size:=fun h=>(hR.own _ _ _ h).2.1
 have hown: ∀b',b'≠b->(G.addBlk ⟨0,d,st.cnt 0 d⟩ b base sz C base).own b'=G.own b':=fun b' hb'=>by simp[Gh.addBlk,hb']
 have hsz:=hR.size;have ht: ∀b' o,aX B S G w.heap.size b' o->aX B S (G.addBlk ⟨0,d,st.cnt 0 d⟩ b base sz C base) w'.heap.size b' o:=by
  intro b' o h
  refine⟨bPo h.1 hb.size,?_⟩
  rw[hown b' (by have:=h.1;omega)];exact h.2
 have m:jJ (aX B S G w.heap.size) G w (aX B S (G.addBlk ⟨0,d,st.cnt 0 d⟩ b base sz C base) w'.heap.size) (G.addBlk ⟨0,d,st.cnt 0 d⟩ b base sz C base) w':=
  let mm:=qX (B:=B) (S:=S) (G:=G) hb
  ⟨ht,hg,mm.cell,mm.map,mm.defer,mm.loop⟩
 refine⟨_,hR.change m hb.size (fun k e hk hkn=>?_) (fun k hk=>?_) (fun b' k t hb'=>?_) (hR.virtAt fun k hk=>by simp[Gh.addBlk,hk]),?_⟩
 ·simp only[En.set]at hk
  split at hk
  ·rename_i hkk;subst hkk;simp only[bOw]at hk;subst hk
   refine .blk xs false b base sz C base c t (by simp[Gh.addBlk]) (by omega) hh hC hC' hs ho (fun i j hi hj=>VR.into ((hv i j hi hj).mono ⟨fun b' o h=>?_,Gh.le_refl _,fun _ _ _ _ h=>h,fun _ _ _ _ h=>h,fun _ _ h=>h,fun _ r h=>⟨r,h⟩⟩) _) (by simp[Gh.addBlk]) rfl
   obtain⟨⟨g1,g2⟩,g3⟩:=h
   by_cases hbw:b'<w.heap.size
   ·exact ht _ _ (hS _ _ hbw (g2 hbw))
   ·refine⟨g1,.inr ⟨by omega,?_⟩⟩
    by_cases hbb:b'=b
    ·subst hbb;simp[Gh.addBlk];exact g3 rfl
    ·rw[hown b' hbb];cases hw:G.own b' with
     |none=>trivial
     |some z=>obtain⟨k,t⟩:=z;have:=hlt hw;omega
  ·rename_i hne
   refine(hR.ents k e hk (Gh.knows_of (fun k hk=>by simp[Gh.addBlk,hk]) hne hkn)).mono m.four fun b' _ hb'=>?_
   have h1:=aOd (fun b k t ho=>hlt ho) hb'
   exact⟨hb.block b' h1,hown b' (by omega)⟩
 ·have hne:k≠⟨0,d,st.cnt 0 d⟩:=by rintro rfl;simp only[mG]at hk;omega
  have hle:st.cnt k.n k.t<=k.g:=bPb (nZ _ _) hk;obtain⟨f1,f2,f3⟩:=hR.freshG k hle;exact⟨by simp only[En.set,if_neg hne];exact hR.freshEn k hle,f1,by simp only[Gh.addBlk,if_neg hne];exact f2,f3⟩
 ·by_cases hbb:b'=b
  ·subst hbb;simp only[Gh.addBlk,if_true,bOw,bO1]at hb';obtain⟨rfl,_⟩:=hb';exact⟨by omega,dY hh,by simp only[mG];omega⟩
  ·rw[hown b' hbb]at hb';obtain⟨h1,h2,h3⟩:=hR.own _ _ _ hb';exact⟨h1,bPo h2 hb.size,bPo h3 (nZ _ _)⟩
 ·have:=VR.bl (T:=aX B S (G.addBlk ⟨0,d,st.cnt 0 d⟩ b base sz C base) w'.heap.size) (G:=G.addBlk ⟨0,d,st.cnt 0 d⟩ b base sz C base) (w:=w') ⟨0,d,st.cnt 0 d⟩ 0 xs.length b base sz C (by simp[Gh.addBlk]) (by omega)
  simpa using this
theorem aQp {x:Val}(hf:x.flat1=true)(hj:j<x.cells.length)(h:VR T G w (x.cells.getD j .dead) v):VR T' G' w' (x.cells.getD j .dead) v:=by
 cases x with
 |agg cs=>
  refine xZ h ?_
  have hj':j<cs.length:=hj;have e:(Val.agg cs).cells.getD j .dead=cs[j]:=by simp[Val.cells,bO2,hj']
  rw[e];exact bO4.1 hf _ (bO6 hj')
 |_=>
  simp only[Val.cells,bO7,bPe]at hj
  obtain rfl:j=0:=by omega
  exact tR h hf
theorem aZt (h:bCu B T w sz xs v)(hf:xs.all Val.flat1=true):bCu B T' w sz xs v:=by
 rcases h with h|⟨b,base,C,c,t,hB,e,hh,hC,hC',hs,ho,hv⟩
 ·exact .inl h
 ·refine .inr ⟨b,base,C,c,t,hB,e,hh,hC,hC',hs,ho,fun i j hi hj=>aQp ?_ (by rw[hs i hi];exact hj) (hv i j hi hj)⟩
  have:=bO4.1 hf xs[i] (bO6 hi)
  simpa[bO2,hi]using this
theorem aQq (hR:Rel P Ξ B S G st N a w)(hcall:lJ P call){X:List Val}{Y:Array Value}{rs:List (Val×List Key)}{v:Val}
  (hlen:X.length=Y.size) (hvals: ∀i,i<X.length->VR (aX B S G w.heap.size) G w (X.getD i .dead) (Y.getD i undef)) (hrun:(execOp a.eval o).run P w= .ok (.enter f Y) w)
  (hs:cU (fun x=>snap n st.en x) X=some rs) (hr:call f (rs.map (·.1.wk1))=some v):
  eK P Ξ B S st N a w o d (gS 0 d (st.cnt 0 d) v (rs.flatMap (·.2))):=by
 obtain⟨_,hcalls⟩:=hcall _ _ _ hr;obtain⟨s1,s2⟩:=tN hs;have hrl:(rs.map (·.1.wk1)).length=rs.length:=by simp
 have l0:rs.length=X.length:=by rw[<-s1];simp
 have fin: ∀(S':Nat->Nat->Prop),(∀b o,S' b o->b<w.heap.size)->tM S' w->
   (∀i,i<X.length->VR S' Gh.none w ((rs.map (·.1)).getD i .dead) (Y.getD i undef))->
   (∀x w',Below w.heap.size w w'->aL0 w.heap.size (aEe w S' w') w' v x-> ∃G',Rel P Ξ B S G' (st.mem d (gS 0 d (st.cnt 0 d) v (rs.flatMap (·.2)))) N a w'/\ VR (aX B S G' w'.heap.size) G' w' (gS 0 d (st.cnt 0 d) v (rs.flatMap (·.2))).v x)->
   eK P Ξ B S st N a w o d (gS 0 d (st.cnt 0 d) v (rs.flatMap (·.2))):=by
  intro S' hlt hgl hin hout ro m next Q k
  refine⟨fun _ _=>trivial,?_⟩
  rw[pU hrun (by simp),Oper.uponIn_enter]
  refine⟨fun h=>by simp[Fx,Fence.wide]at h,?_⟩
  refine pG (Calls.mono (hcalls S' w _ hlt hgl (by rw[hrl,l0,hlen]) (fun i hi=>?_)) ?_)
  ·rw[hrl,l0]at hi;have:=(hin i hi).wk1;rw[show rs.map (·.1.wk1)=(rs.map (·.1)).map Val.wk1 by simp]
   rw[aEa];exact this
  ·rintro e w' ⟨x,rfl,hb,hv⟩
   obtain⟨G',g1,g2⟩:=hout x w' hb hv;exact k x w' G' g1 g2 ⟨hb.os,hb.tape,hb.output,hb.size,fun k hk=>hb.block k (bPo hk hR.size)⟩
 have all: ∀i,i<X.length->VR (fun b _=>b<w.heap.size) Gh.none w ((rs.map (·.1)).getD i .dead) (Y.getD i undef):=fun i hi=>by
  obtain⟨ks,e1,_⟩:=s2 i hi;exact xV hR.ents ⟨fun _ _ h=>h.1,G.le_refl,fun _ _ _ _ h=>h,fun _ _ _ _ h=>h,fun _ _ h=>h,fun _ r h=>⟨r,h⟩⟩ n (hvals i hi) e1 fun k _ e he=>aVz hR he
 obtain⟨G',hR',hg,hT,hsnap⟩:=xY hR (rs.flatMap (·.2));have frz: ∀i,i<X.length->VR (aX B S G' w.heap.size) Gh.none w ((rs.map (·.1)).getD i .dead) (Y.getD i undef):=fun i hi=>by
  obtain⟨ks,e1,e2⟩:=s2 i hi;exact hsnap n _ _ _ ks (hvals i hi) e1 e2
 by_cases hown: ∃sz xs,v= .own sz xs
 ·obtain⟨sz,xs,rfl⟩:=hown
  by_cases hfl:xs.all Val.flat1=true
  ·refine fin (fun b _=>b<w.heap.size) (fun _ _ h=>h) (hR.glob.mono fun _ _ h=>h.1) all fun x w' hb hv=>?_
   obtain⟨G2,h1,h2⟩:=aV0 (d:=d) (S':=fun _ _=>False) hR hb (fun _ _ _ h=>h.elim) (aZt hv hfl)
   exact⟨G2,by simpa[St.mem,gS,hfl,W.applyAll,W.apply]using h1,h2⟩
  ·refine fin (aX B S G' w.heap.size) (fun _ _ h=>h.1) hR'.glob frz fun x w' hb hv=>?_
   obtain⟨G2,h1,h2⟩:=aV0 (d:=d) hR' hb (fun _ _ _ h=>h) hv
   refine⟨G2,?_,h2⟩
   simpa[St.mem,gS,hfl,W.applyAll,W.apply]using h1
 have hcr:gS 0 d (st.cnt 0 d) v (rs.flatMap (·.2))={v:=v,ws:=if v.flat then []else(rs.flatMap (·.2)).map .frz,rs:=(rs.flatMap (·.2)).map .val}:=by
  cases v<;>first|rfl|exact absurd ⟨_,_,rfl⟩ hown
 have hres: ∀{B':Nat} {T:Nat->Nat->Prop} {w':World} {x:Value},aL0 B' T w' v x->VR T Gh.none w' v x:=by
  intro B' T w' x h;cases v<;>first|exact h|exact absurd ⟨_,_,rfl⟩ hown
 by_cases hfl:v.flat=true
 ·refine fin (fun b _=>b<w.heap.size) (fun _ _ h=>h) (hR.glob.mono fun _ _ h=>h.1) all fun x w' hb hv=>⟨G,?_,?_⟩
  ·rw[hcr];simpa[St.mem,hfl,W.applyAll]using hR.below hb
  ·rw[hcr];exact aMt (hres hv) hfl
 ·refine fin (aX B S G' w.heap.size) (fun _ _ h=>h.1) hR'.glob frz fun x w' hb hv=>⟨G',?_,?_⟩
  ·rw[hcr];simpa[St.mem,hfl]using hR'.below hb
  ·rw[hcr]
   refine(hres hv).mono ⟨fun b q h=>?_,Gh.none_le _,fun _ _ _ _ h=>h,fun _ _ _ _ h=>h,fun _ _ h=>h,fun _ r h=>⟨r,h⟩⟩
   by_cases hbw:b<w.heap.size
   ·exact⟨h.1,(h.2 hbw).2⟩
   ·refine⟨h.1,.inr ⟨by have:=hR.size;omega,?_⟩⟩
    cases hown:G'.own b with
    |none=>trivial
    |some z=>obtain⟨k,t⟩:=z;have:=(hR'.own _ _ _ hown).2.1;omega
theorem bCv (hR:Rel P Ξ B S G st N a w)(hcall:lJ P call){x:Opd}{ys:List Opd}{rs:List (Val×List Key)}{v:Val}
  (ho:o.op= .call c) (hc:c.callee= .value F) (h1:aO F=some x) (h2:jH c.args.toList=some ys) (hf:St.get st.fr x= .fn f A Z)
  (hs:cU (fun x=>snap n st.en x) (A++ys.map (St.get st.fr)++Z)=some rs) (hr:call f (rs.map (·.1.wk1))=some v):
  eK P Ξ B S st N a w o d (gS 0 d (st.cnt 0 d) v (rs.flatMap (·.2))):=by
 obtain⟨⟨fn,hfn,hnm,hbody⟩,hcalls⟩:=hcall _ _ _ hr;have hF:=aU hR h1;rw[hf]at hF;obtain⟨ly,vy⟩:=oV hR h2;generalize hgF:a.eval F=uF at hF;cases hF with
 |fn _ _ _ p q hp hq hvp hvq=>
 obtain⟨s1,s2⟩:=tN hs;have hlen:(A++ys.map (St.get st.fr)++Z).length=(p++c.args.map a.eval++q).size:=by simp[hp,hq,ly]
 have hvals: ∀i,i<(A++ys.map (St.get st.fr)++Z).length->VR (aX B S G w.heap.size) G w ((A++ys.map (St.get st.fr)++Z).getD i .dead) ((p++c.args.map a.eval++q).getD i undef):=by
  intro i hi;simp only[bO2,bPc,bRn,bRp,bPg,bRo,Array.size_map,bOz]at hi⊢;have e1:p.size=A.length:=hp;have e2:c.args.size=ys.length:=by simp[ly]
  rw[e1,e2];split
  ·split
   ·rename_i h;have:=hvp i h;simpa[bO2,bPc]using this
   ·have hi':i-A.length<ys.length:=by omega
    have:=vy (i-A.length) hi';have hi2:i-A.length<c.args.size:=by omega
    simpa[bO2,bPc,hi',hi2]using this
  ·have:=hvq (i-(A.length+ys.length)) (by omega);simpa[bO2,bPc]using this
 have hrun:(execOp a.eval o).run P w= .ok (.enter f (p++c.args.map a.eval++q)) w:=by
  have hnm': ¬fn.name= "runtime.NumGoroutine" :=by simpa using hnm
  have hbody': ¬fn.body=none:=by intro h;rw[h]at hbody;cases hbody
  simp[execOp,ho,resolve,hc,hgF,Deferred.ofValue,invoke,callFunc,hfn,hnm',hbody']
 exact aQq hR hcall hlen hvals hrun hs hr
theorem aT2 {tbl:List (Nat×Nat)}{t:Nat}(h:tbl.lookup t=some f):(t,f)∈tbl:=by
 induction tbl with
 |nil=>cases h
 |cons x l ih=>
  obtain⟨t',f'⟩:=x;simp only[List.lookup]at h
  split at h
  ·rename_i he;simp only[bOw]at h;subst h;simp at he;subst he;simp
  ·exact bQz _ (ih h)
theorem aT3 (h:aIy P name t=some f)(x:Value)(k:Nat):(method (k+1) t x name).run P w= .ok (f,x) w:=by
 unfold aIy at h
 split at h
 ·rename_i i hi
  split at h
  ·rename_i m hm
   split at h
   ·rename_i hp hf
    split at h
    ·rename_i e hu
     split at h
     ·rename_i hpr;simp only[bOw]at h;subst h;subst hpr;simp[method,typeInfo,hi,hm,hp,hf,follow,receiverAt,run_underlying hu,Place.get]
     ·cases h
    ·rename_i dsc hu hnp
     split at h
     ·cases h
     ·rename_i hpr;simp only[bOw]at h;subst h;have hpr':=eq_false_of_ne_true hpr;subst hpr';have hnp':=run_underlying (w:=w) hnp;cases dsc<;>first|(exact absurd rfl (hu _))|simp[method,typeInfo,hi,hm,hp,hf,follow,receiverAt,hnp',Place.get]
    ·cases h
   ·cases h
  ·cases h
 ·cases h
theorem bF4 (hR:Rel P Ξ B S G st N a w)(hcall:lJ P call){t:Nat}{ys:List Opd}{rs:List (Val×List Key)}{v:Val}
  (ho:o.op= .call c) (hc:c.callee= .invoke (.tmp t) name) (h2:jH c.args.toList=some ys) (hf:wP (aBm P name) (st.fr t)= .fn f A Z)
  (hs:cU (fun x=>snap n st.en x) (A++ys.map (St.get st.fr)++Z)=some rs) (hr:call f (rs.map (·.1.wk1))=some v):
  eK P Ξ B S st N a w o d (gS 0 d (st.cnt 0 d) v (rs.flatMap (·.2))):=by
 obtain⟨⟨fn,hfn,hnm,hbody⟩,_⟩:=hcall _ _ _ hr;have hF:=hR.frame t;generalize st.fr t=V at hf hF;cases V<;>simp only[wP,reduceCtorEq]at hf
 rename_i ty u
 split at hf
 case h_2=>cases hf
 rename_i f' hl;simp only[Val.fn.injEq]at hf;obtain⟨rfl,rfl,rfl⟩:=hf;have hm:=aT2 hl;simp only[aBm,List.mem_filterMap,bPa,bO1]at hm;obtain⟨t',_,f'',hm,rfl,rfl⟩:=hm;generalize hg:a.tmps.getD t undef=uF at hF;cases hF with
 |ifc _ _ x hx=>
 obtain⟨ly,vy⟩:=oV hR h2
 refine aQq hR hcall (Y:= #[x]++c.args.map a.eval) (by simp[ly];omega) (fun i hi=>?_) ?_ hs hr
 ·simp only[bRa,bP1,bPx,bO7,bOz]at hi;cases i with
  |zero=>simpa[bPc,bRp]using hx
  |succ i=>
   have hi':i<ys.length:=by omega
   have:=vy i hi';have hi2:i<c.args.size:=by rw[ly]at hi';simpa using hi'
   simpa[bO2,bPc,bRp,hi',hi2]using this
 ·have hnm': ¬fn.name= "runtime.NumGoroutine" :=by simpa using hnm
  have hbody': ¬fn.body=none:=by intro h;rw[h]at hbody;cases hbody
  have hrm:=aT3 (P:=P) (w:=w) hm x (P.types.size+Made.depth-1);have hne:P.types.size+Made.depth-1+1=P.types.size+Made.depth:=by
   have:0<Made.depth:=by decide
   omega
  rw[hne]at hrm;have hev:a.eval (.tmp t)= .iface t' x:=hg;have e0:(#[Value.iface t' x]++c.args.map a.eval)[0]?=some (.iface t' x):=by simp[bRp]
  have e1:(c.args.map a.eval).extract 0 c.args.size=c.args.map a.eval:=by
   apply Array.ext';simp only[Array.toList_extract,Array.toList_map];rw[List.extract_eq_take_drop]<;>simp[bPi]
  simp[execOp,ho,resolve,hc,hev,invoke,callMethod,e0,hrm,callFunc,hfn,hnm',hbody',e1]
end
def aOo :EqT->TypeDesc->Prop
 | .num,.int _=>True
 | .str,.string=>True
 | .bool,.bool=>True
 |_,_=>False
theorem aG6 {e:EqT}(h:aFy P t=some e): ∃d,P.underlying t=some d/\ aOo e d:=by
 unfold aFy at h
 split at h<;>simp only[bOw,reduceCtorEq]at h<;>subst h
 ·refine⟨_,by assumption,?_⟩;trivial
 ·refine⟨_,by assumption,?_⟩;trivial
 ·refine⟨_,by assumption,?_⟩;trivial
theorem toList_inj {a b:ByteArray}(h:a.toList=b.toList):a=b:=by
 rw[ByteArray.toList_eq,ByteArray.toList_eq]at h;obtain⟨⟨x⟩⟩:=a;obtain⟨⟨y⟩⟩:=b
 simp only at h;rw[h]
theorem aT4 (a b:ByteArray):(a==b)=(a.toList==b.toList):=by
 rw[bRd,MapKept.bytes_beq];constructor
 ·rintro rfl;simp
 ·intro h;exact toList_inj (by simpa using h)
variable {u:Value}
theorem aJg {e:EqT}{d:TypeDesc}(hd:aOo e d){k x:Val}{b:Bool}(hk:VR T G w k u)(hx:VR T' G' w' x v)(h:pP e k x=some b):
  Instr.sameNow d u v=some b:=by
 cases e<;>cases d<;>simp only[aOo]at hd<;>cases k<;>cases x<;>simp only[pP,reduceCtorEq]at h<;>cases hk<;>cases hx
 ·simp only[Instr.sameNow];exact h
 ·simp only[Instr.sameNow,aT4];exact h
 ·simp only[Instr.sameNow];exact h
theorem aJh {e:EqT}{d:TypeDesc}(hd:aOo e d){k:Val}(hk:VR T G w k u):
  ∀(ks:List Val) (es:List MapEntry) (i:Nat) (r:Option Nat),es.length=ks.length->(∀j,j<ks.length->VR T' G' w' (ks.getD j .dead) (es.getD j default).key)->findKey e k ks=some r->
   Instr.findNow d u es i=some (r.map fun j=>(i+j,(es.getD j default).val))/\ ∀j,r=some j->j<ks.length/\ pP e k (ks.getD j .dead)=some true:=by
 intro ks
 induction ks with
 |nil=>
  intro es i r hl hv h;cases es with
  |nil=>simp only[findKey,bOw]at h;subst h;exact⟨rfl,fun j h=>by cases h⟩
  |cons=>simp at hl
 |cons x xs ih=>
  intro es i r hl hv h;cases es with
  |nil=>simp at hl
  |cons y ys=>
   have h0:=hv 0 (by simp)
   simp only[bRt]at h0;have ht: ∀j,j<xs.length->VR T' G' w' (xs.getD j .dead) (ys.getD j default).key:=fun j hj=>by
    have:=hv (j+1) (by simp;omega);simpa only[List.getD_cons_succ]using this
   simp only[findKey]at h
   split at h
   ·rename_i hq;simp only[bOw]at h;subst h
    refine⟨by simp[Instr.findNow,aJg hd hk h0 hq],fun j hj=>?_⟩
    simp only[bOw]at hj;subst hj;exact⟨by simp,by simpa using hq⟩
   ·rename_i hq
    split at h
    ·rename_i j hj;simp only[bOw]at h;subst h;obtain⟨h1,h2⟩:=ih ys (i+1) _ (by simpa using hl) ht hj
     refine⟨by simp only[Instr.findNow,aJg hd hk h0 hq,h1,bPq,List.getD_cons_succ];congr 3;omega,fun j' hj'=>?_⟩
     simp only[bOw]at hj';subst hj';obtain⟨h3,h4⟩:=h2 j rfl;exact⟨by simp;omega,by simpa using h4⟩
    ·rename_i hj;simp only[bOw]at h;subst h;obtain⟨h1,h2⟩:=ih ys (i+1) _ (by simpa using hl) ht hj
     exact⟨by simp only[Instr.findNow,aJg hd hk h0 hq,h1,Option.map_none],fun j h=>by cases h⟩
    ·cases h
   ·cases h
variable {kt:TypeId}
theorem aQr {e:EqT}{d:TypeDesc}(hd:P.underlying kt=some d)(hK:aOo e d){k:Val}(hk:VR T G w k u)(h:tK e k=true)(b:Bool)(n:Nat):
  (Instr.checkKey b (n+1) kt u).run P w'= .ok () w':=by
 unfold Instr.checkKey;simp only[Sem.run_bind,run_underlying hd,Result.andThen];cases e<;>cases d<;>simp only[aOo]at hK<;>rfl
theorem aZu {e:EqT}{k:Val}(hk:VR T G w k u)(h:tK e k=true):(Instr.keyThatStays u u).run P w'= .ok u w':=by
 have:Instr.sameBits 10000 u u=true:=by
  cases k<;>simp[tK]at h<;>cases hk<;>simp[Instr.sameBits,MapKept.bytes_beq]
 simp[Instr.keyThatStays,this]
theorem aT5 {e:EqT}{k:Val}(hk:VR T G w k u)(h:tK e k=true)(T':Nat->Nat->Prop)(G':Gh)(w':World):VR T' G' w' k u:=by
 cases k<;>simp[tK]at h<;>cases hk
 ·exact .bool _
 ·exact .int _ _
 ·exact .str _
theorem bF5 {e:EqT}{d:TypeDesc}(hd:aOo e d){k x:Val}(hk:VR T G w k u)(hx:VR T' G' w' x v)(h:pP e k x=some true):v=u:=by
 cases e<;>cases d<;>simp only[aOo]at hd<;>cases k<;>cases x<;>simp only[pP,reduceCtorEq]at h<;>cases hk<;>cases hx
 ·split at h
  ·rename_i hj;subst hj;simp at h;rw[h]
  ·cases h
 ·simp at h;rw[toList_inj h]
 ·simp at h;rw[h]
variable {es:Array MapEntry}{et:TypeId}{ks:List Val}
section
variable {o:Oper}
theorem aZv (hR:Rel P Ξ B S G st N a w)(ho:o.op= .makeMap t none):
  eK P Ξ B S st N a w o d {v:= .mp ⟨0,d,st.cnt 0 d⟩,ws:=[.ent ⟨0,d,st.cnt 0 d⟩ (some (.map [] [] false))],bump:=true}:=by
 have hf:=hR.freshG ⟨0,d,st.cnt 0 d⟩ (bOy _);have hg:=Gh.le_addMp (b:=w.heap.size) hf.2.2;have ho': ∀b,b≠w.heap.size->(G.addMp ⟨0,d,st.cnt 0 d⟩ w.heap.size).own b=G.own b:=fun b hb=>by simp[Gh.addMp,hb]
 refine jC (G':=G.addMp ⟨0,d,st.cnt 0 d⟩ w.heap.size) (w':=w.alloc (.map #[] 0)) (x:= .map (some w.heap.size)) ?_ ?_ (.mp _ _ (by simp[Gh.addMp])) ((Below.refl B w).alloc hR.size _)
 ·simp[execOp,ho,Instr.makeMap]
 ·exact hR.alloc d _ _ _ hg ho' (fun k' hk'=>by simp[Gh.addMp,hk']) (fun k' t h=>by simp[Gh.addMp]at h;exact h.1.symm)
   (.map [] [] false w.heap.size #[] 0 (by simp[Gh.addMp]) hR.size (fF _ _) rfl rfl (fun i hi=>by simp at hi) (fun i hi=>by simp at hi) (by simp[Gh.addMp]))
theorem aBs :es.toList.getD j default=es.getD j default:=by
 simp[bO2,bPc]
def aZw (w:World)(x:Value)(es:Array MapEntry):Prop:=
 match x with
 | .map none=>es= #[]
 | .map (some r)=> ∃clock,w.heap[r]?=some (.map es clock)
 |_=>False
def bEy (vs:List Val)(z:Val)(ok:Bool):Option Nat->Val
 |some i=>if ok then .tup [vs.getD i .dead,.bool true]else vs.getD i .dead
 |none=>if ok then .tup [z,.bool false]else z
theorem aT6 {e:EqT}{dd:TypeDesc}(ht:P.underlying t=some (.map kt et))(hd:P.underlying kt=some dd)(hK:aOo e dd){z:Val}(hz:tL P et=some z){K:Val}
  (hk:VR T G w K u) (hok:tK e K=true)   {x:Value} (hes:aZw w x es)
  (hs:es.size=ks.length) (hl:vs.length=ks.length) (hkv: ∀i,i<ks.length->VR T Gh.none w (ks.getD i .dead) (es.getD i default).key) (hvv: ∀i,i<ks.length->VR T Gh.none w (vs.getD i .dead) (es.getD i default).val)
  {q:Option Nat} (hf:findKey e K ks=some q) (ok:Bool):
  ∃y,(Instr.lookup t x u ok).run P w= .ok y w/\ VR T G w (bEy vs z ok q) y:=by
 have hfind:=aJh hK hk ks es.toList 0 q (by simpa using hs) (fun j hj=>by rw[aBs];exact hkv j hj) hf
 have hik:=fun b=>aQr (w':=w) hd hK hk hok b 9999
 obtain⟨i0,zv,hi0,hzv,hzr⟩:=aG4 (G:=G) (w:=w) (T:=T) hz;have hzero:(zeroValue et).run P w= .ok zv w:=by simp[zeroValue,typeInfo,hi0,hzv]
 have main: ∀(g:Sem (Array MapEntry)),g.run P w= .ok es w->(Instr.lookup t x u ok).run P w=(do
    let .map key elem←underlying t|stuck "Lookup: map type expected"
    let es<-g
    Instr.checkKey es.isEmpty 10000 key u
    let (v,ok')<-match<-Instr.findKey key u es.toList with
     |some (_,v)=>pure (v,true)
     |none=>pure (<-zeroValue elem,false)
    pure (if ok then .tuple #[v,.bool ok']else v):Sem Value).run P w-> ∃y,(Instr.lookup t x u ok).run P w= .ok y w/\ VR T G w (bEy vs z ok q) y:=by
  intro g hg heq;rw[heq];cases q with
  |none=>
   refine⟨if ok then .tuple #[zv,.bool false]else zv,?_,?_⟩
   ·simp only[Sem.run_bind,run_underlying ht,Result.andThen_ok,hg,hik,MapKept.run_findKey hd hfind.1,Option.map_none,hzero,Sem.run_pure]
   ·cases ok
    ·exact hzr
    ·exact hzr.tup2 (.bool _)
  |some j=>
   obtain⟨hj,_⟩:=hfind.2 j rfl
   refine⟨if ok then .tuple #[(es.getD j default).val,.bool true]else(es.getD j default).val,?_,?_⟩
   ·simp only[Sem.run_bind,run_underlying ht,Result.andThen_ok,hg,hik,MapKept.run_findKey hd hfind.1,bPq,aBs,Sem.run_pure]
   ·have hv:VR T G w (vs.getD j .dead) (es.getD j default).val:=(hvv j hj).mono4 ⟨fun _ _ h=>h,G.none_le,fun _ _ _ _ h=>h,fun _ _ _ _ h=>h⟩
    cases ok
    ·exact hv
    ·exact hv.tup2 (.bool _)
 unfold aZw at hes
 split at hes
 ·subst hes;exact main (pure #[]) rfl rfl
 ·rename_i r;obtain⟨clock,hb⟩:=hes;exact main (do
   let .map es _←getObj r|stuck "Lookup: map expected"
   pure es) (by simp[MapKept.run_getObj_map hb]) (by cases q<;>simp only[Instr.lookup,Sem.run_bind,run_underlying ht,Result.andThen_ok,MapKept.run_getObj_map hb,Sem.run_pure,hik,MapKept.run_findKey hd hfind.1,Option.map_none,bPq,hzero])
 ·exact hes.elim
theorem bCw (hR:Rel P Ξ B S G st N a w){ok:Bool}{e:EqT}{z:Val}(ho:o.op= .lookup t x y ok)(ht:P.underlying t=some (.map kt et))
  (hK:aFy P kt=some e) (hz:tL P et=some z) (h1:aO x=some x') (h2:aO y=some y') (hev:eval n call 0 d (st.cnt 0 d) st.en (St.get st.fr) (.mget e z ok x' y')=some r):eK P Ξ B S st N a w o d r:=by
 obtain⟨dd,hd,hKd⟩:=aG6 hK;have hx:=aU hR h1;have hy:=aU hR h2;simp only[eval]at hev
 split at hev
 case isFalse=>cases hev
 rename_i hok;have run: ∀{v:Value},(Instr.lookup t (a.eval x) (a.eval y) ok).run P w= .ok v w->(execOp a.eval o).run P w= .ok (.value v) w:=by
  intro v h;simp[execOp,ho,h]
 generalize hg:a.eval x=u at hx run;have fin: ∀{ks vs:List Val} {es:Array MapEntry} {rs:List R},aZw w u es->es.size=ks.length->vs.length=ks.length->
   (∀i,i<ks.length->VR (aX B S G w.heap.size) Gh.none w (ks.getD i .dead) (es.getD i default).key)->(∀i,i<ks.length->VR (aX B S G w.heap.size) Gh.none w (vs.getD i .dead) (es.getD i default).val)->
   (match findKey e (St.get st.fr y') ks with
    |some (some i)=>some (if ok then Val.tup [vs.getD i .dead,.bool true]else vs.getD i .dead)
    |some none=>some (if ok then Val.tup [z,.bool false]else z)
    |none=>none).map (fun v=>({v:=v,rs:=rs}:Res))=some r->eK P Ξ B S st N a w o d r:=by
  intro ks vs es rs hes hs hl hkv hvv hm;cases hf:findKey e (St.get st.fr y') ks with
  |none=>rw[hf]at hm;cases hm
  |some q=>
   obtain⟨v,hrun,hv⟩:=aT6 ht hd hKd hz hy hok hes hs hl hkv hvv hf ok;rw[hf]at hm;cases q with
   |none=>simp only[bPq,bOw]at hm;subst hm;exact bZ hR (run hrun) hv
   |some j=>simp only[bPq,bOw]at hm;subst hm;exact bZ hR (run hrun) hv
 split at hev
 ·rename_i key hX
  split at hev
  ·rename_i ks vs frz he;rw[hX]at hx;cases hx with
   |mp _ r' hr'=>
    have hE:=hR.ents key _ he (Gh.knows_mp hr');cases hE with
    |map _ _ _ r2 es clock hr2 hB hh hk hl hkv hvv hown=>
     rw[hr']at hr2;simp only[bOw]at hr2;subst hr2;exact fin (rs:=[.val key]) ⟨clock,hh⟩ hk hl hkv hvv hev
  ·cases hev
 ·rename_i ks vs hX;rw[hX]at hx;cases hx with
  |fm _ _ r' es clock hh hT hk hl hkv hvv=>exact fin (rs:=[]) ⟨clock,hh⟩ hk hl hkv hvv hev
 ·rename_i hX;rw[hX]at hx;cases hx with
  |nilm=>exact fin (ks:=[]) (vs:=[]) (rs:=[]) rfl rfl rfl (fun i hi=>by simp at hi) (fun i hi=>by simp at hi) hev
 ·cases hev
theorem aG7 {f:MapEntry->MapEntry}(hi:i<es.size)(hj:j<es.size):(es.modify i f).getD j default=if i=j then f (es.getD i default)else es.getD j default:=by
 simp only[bPc,Array.getElem?_modify]
 by_cases h:i=j
 ·subst h;simp[hi]
 ·simp[h]
theorem aMu {x:MapEntry}(hj:j<es.size+1):(es.push x).getD j default=if j<es.size then es.getD j default else x:=by
 simp only[bPc,Array.getElem?_push]
 by_cases h:j<es.size
 ·rw[if_neg (by omega),if_pos h]
 ·rw[if_pos (by omega),if_neg h];rfl
theorem aQs {x:Val}(hi:i<ks.length):(ks.set i x).getD j .dead=if i=j then x else ks.getD j .dead:=by
 simp only[bO2,bRl]
 by_cases h:i=j
 ·subst h;simp[hi]
 ·simp[h]
theorem aMv {x:Val}(hj:j<ks.length+1):(ks++[x]).getD j .dead=if j<ks.length then ks.getD j .dead else x:=by
 simp only[bO2,bRn]
 by_cases h:j<ks.length
 ·simp[h]
 ·have:j-ks.length=0:=by omega
  simp[h,this]
theorem aV1 (hR:Rel P Ξ B S G st N a w){v:Operand}{v':Opd}{e:EqT}(ho:o.op= .mapUpdate t x y v \/o.op= .insert t x y v)(ht:P.underlying t=some (.map kt et))
  (hK:aFy P kt=some e) (h1:aO x=some x') (h2:aO y=some y') (h3:aO v=some v') (hev:eval n call 0 d (st.cnt 0 d) st.en (St.get st.fr) (.mput e x' y' v')=some r):eK P Ξ B S st N a w o d r:=by
 obtain⟨dd,hd,hKd⟩:=aG6 hK;have hx:=aU hR h1;have hy:=aU hR h2;have hv:=aU hR h3;simp only[eval]at hev
 split at hev
 case h_2=>cases hev
 rename_i key hX
 split at hev
 case h_2=>cases hev
 rename_i ks vs he
 split at hev
 case isFalse=>cases hev
 rename_i hcond;simp only[bOx]at hcond;obtain⟨hok,hfl⟩:=hcond;generalize hg:a.eval x=u at hx;rw[hX]at hx;cases hx with
 |mp _ b hr'=>
 have hE:=hR.ents key _ he (Gh.knows_mp hr');cases hE with
 |map _ _ _ r2 es clock hr2 hB hh hk hl hkv hvv hown=>
 rw[hr']at hr2;simp only[bOw]at hr2;subst hr2;simp only[bO0,if_false]at hown;have hik:=fun b=>aQr (w':=w) hd hKd hy hok b 9999
 have hsk: ∀(es':Array MapEntry) (cl:Nat) (ks' vs':List Val) (rs:List R),(Instr.mapUpdate t (.map (some b)) (a.eval y) (a.eval v)).run P w= .ok () (kG w b (.map es' cl))->es'.size=ks'.length->vs'.length=ks'.length->
   (∀j,j<ks'.length->VR (aX B S G w.heap.size) Gh.none w (ks'.getD j .dead) (es'.getD j default).key)->(∀j,j<ks'.length->VR (aX B S G w.heap.size) Gh.none w (vs'.getD j .dead) (es'.getD j default).val)->
   eK P Ξ B S st N a w o d {v:= .tup [],ws:=[.ent key (some (.map ks' vs' false))],rs:=rs}:=by
  intro es' cl ks' vs' rs hrun hs' hl' hk' hv';have hrel:=hR.write (e':= .map ks' vs' false) (o':= .map es' cl) hown hh (fun _ _=> .inr (bOy 0)) (fun _=>by simp) (fun _ h=>by cases h) (fun off h=>by omega)
   (fun m=> .map _ _ false b es' cl hr' hB (by rw[kU _ (dY hh)]) hs' hl' (fun j hj=>(hk' j hj).mono m.none) (fun j hj=>(hv' j hj).mono m.none) (by simpa using hown))
  refine aOf ?_ (G':=G) (w':=kG w b (.map es' cl)) ?_ rfl ?_
  ·rcases ho with ho|ho<;>simp[execOp,ho,hg,hrun]
  ·have:W.applyAll st.en [.ent key (some (.map ks' vs' false))]=st.en.set key (some (.map ks' vs' false)):=rfl;simp only[St.mem,this];exact hrel
  ·exact⟨rfl,rfl,rfl,by rw[nH];exact bOy _,fun k hk=>fB _ (by omega)⟩
 have hy0:=aT5 hy hok (aX B S G w.heap.size) Gh.none w;have hv0:VR (aX B S G w.heap.size) Gh.none w _ _:=tR hv hfl
 split at hev
 ·rename_i i hf;simp only[bOw]at hev;subst hev;obtain⟨hfn,hfi⟩:=aJh hKd hy ks es.toList 0 _ (by simpa using hk) (fun j hj=>by rw[aBs];exact hkv j hj) hf
  obtain⟨hi,heq⟩:=hfi i rfl;have hie:i<es.size:=by omega
  have hkeq:(es.getD i default).key=a.eval y:=bF5 hKd hy (hkv i hi) heq
  refine hsk (es.modify i fun e=>{e with key:=a.eval y,val:=a.eval v}) clock _ _ _ ?_ (by simp[hk]) (by simp[hl]) (fun j hj=>?_) (fun j hj=>?_)
  ·have hold:((es[i]?).map (·.key)).getD (a.eval y)=a.eval y:=by
    rw[<-hkeq];simp[bPc,hie]
   have hst:(Instr.keyThatStays (((es[i]?).map (·.key)).getD (a.eval y)) (a.eval y)).run P w= .ok (a.eval y) w:=by
    rw[hold];exact aZu hy hok
   simp only[Instr.mapUpdate,Sem.run_bind,run_underlying ht,Result.andThen_ok,MapKept.run_getObj_map hh,hik,MapKept.run_findKey hd hfn,bPq,bPs,hst,MapKept.run_setObj_map _ hh];rfl
  ·rw[bQ1]at hj;rw[aG7 hie (by omega),aQs hi]
   split
   ·exact hy0
   ·exact hkv j hj
  ·rw[bQ1]at hj;rw[aG7 hie (by omega),aQs (by omega)]
   split
   ·exact hv0
   ·exact hvv j hj
 ·rename_i hf;simp only[bOw]at hev;subst hev;obtain⟨hfn,_⟩:=aJh hKd hy ks es.toList 0 _ (by simpa using hk) (fun j hj=>by rw[aBs];exact hkv j hj) hf
  refine hsk (es.push {key:=a.eval y,val:=a.eval v,born:=clock}) (clock+1) _ _ _ ?_ (by simp[hk]) (by simp[hl]) (fun j hj=>?_) (fun j hj=>?_)
  ·simp only[Instr.mapUpdate,Sem.run_bind,run_underlying ht,Result.andThen_ok,MapKept.run_getObj_map hh,hik,MapKept.run_findKey hd hfn,Option.map_none,MapKept.run_setObj_map _ hh];rfl
  ·simp only[bPg,bO7,bPe]at hj;rw[aMu (by omega),aMv (by omega),hk]
   split
   ·exact hkv j (by omega)
   ·exact hy0
  ·simp only[bPg,bO7,bPe]at hj;rw[aMu (by omega),aMv (by omega),hk,hl]
   split
   ·exact hvv j (by omega)
   ·exact hv0
 ·cases hev
theorem aT7 (hR:Rel P Ξ B S G st N a w)(ho:o.op= .call {callee:= .builtin .len,args:= #[x],argTypes:=ts})(ht:ts[0]?=some t)
  (hu:P.underlying t=some (.map kt et)) (h1:aO x=some x') (hev:eval n call 0 d (st.cnt 0 d) st.en (St.get st.fr) (.len .map x')=some r):eK P Ξ B S st N a w o d r:=by
 have hx:=aU hR h1;generalize hg:a.eval x=u at hx;simp only[eval]at hev
 split at hev
 ·rename_i key hX
  split at hev
  ·rename_i ks vs frz he;simp only[bOw]at hev;subst hev;rw[hX]at hx;cases hx with
   |mp _ b hr'=>
    have hE:=hR.ents key _ he (Gh.knows_mp hr');cases hE with
    |map _ _ _ r2 es clock hr2 hB hh hk hl hkv hvv hown=>
     rw[hr']at hr2;simp only[bOw]at hr2;subst hr2
     refine bZ (x:= .int .i64 ks.length) hR ?_ (.int _ _)
     simp[execOp,ho,resolve,invoke,builtin,Builtin.len_,ht,run_underlying hu,hg,goInt,MapKept.run_getObj_map hh,hk]
  ·cases hev
 ·rename_i ks vs hX;simp only[bOw]at hev;subst hev;rw[hX]at hx;cases hx with
  |fm _ _ b es clock hh hT hk hl hkv hvv=>
   refine bZ (x:= .int .i64 ks.length) hR ?_ (.int _ _)
   simp[execOp,ho,resolve,invoke,builtin,Builtin.len_,ht,run_underlying hu,hg,goInt,MapKept.run_getObj_map hh,hk]
 ·rename_i hX;simp only[bOw]at hev;subst hev;rw[hX]at hx;cases hx with
  |nilm=>
   refine bZ (x:= .int .i64 0) hR ?_ (.int _ _)
   simp[execOp,ho,resolve,invoke,builtin,Builtin.len_,ht,run_underlying hu,hg,goInt]
 ·cases hev
theorem bF6 (hR:Rel P Ξ B S G st N a w){s:ByteArray}(ho:o.op= .range t x)(ht:P.underlying t=some .string)(h1:aO x=some x')(hX:St.get st.fr x'= .str s):
  eK P Ξ B S st N a w o d {v:= .it ⟨0,d,st.cnt 0 d⟩,ws:=[.ent ⟨0,d,st.cnt 0 d⟩ (some (.iter s 0))],bump:=true}:=by
 have hx:=aU hR h1;rw[hX]at hx;have hxe:a.eval x= .string s:=by generalize a.eval x=u at hx;cases hx;rfl
 have hf:=hR.freshG ⟨0,d,st.cnt 0 d⟩ (bOy _);have hg:=Gh.le_addMp (b:=w.heap.size) hf.2.2;have ho': ∀b,b≠w.heap.size->(G.addMp ⟨0,d,st.cnt 0 d⟩ w.heap.size).own b=G.own b:=fun b hb=>by simp[Gh.addMp,hb]
 refine jC (G':=G.addMp ⟨0,d,st.cnt 0 d⟩ w.heap.size) (w':=w.alloc (.stringIter s 0)) (x:= .pointer (some ⟨w.heap.size,0,none⟩)) ?_ ?_ (.it _ _ (by simp[Gh.addMp])) ((Below.refl B w).alloc hR.size _)
 ·have hrun:(Instr.range t (.string s)).run P w= .ok (.pointer (some ⟨w.heap.size,0,none⟩)) (w.alloc (.stringIter s 0)):=by
   simp only[Instr.range,Sem.run_bind,run_underlying ht,Result.andThen_ok,Sem.run_pure];rfl
  simp[execOp,ho,hxe,hrun]
 ·exact hR.alloc d _ _ _ hg ho' (fun k' hk'=>by simp[Gh.addMp,hk']) (fun k' t h=>by simp[Gh.addMp]at h;exact h.1.symm)
   (.iter s 0 w.heap.size (by simp[Gh.addMp]) hR.size (fF _ _) (by simp[Gh.addMp]))
theorem bF7 (hR:Rel P Ξ B S G st N a w)(ho:o.op= .next x true)(h1:aO x=some x')(hev:eval n call 0 d (st.cnt 0 d) st.en (St.get st.fr) (.nxt x')=some r):eK P Ξ B S st N a w o d r:=by
 have hx:=aU hR h1;simp only[eval]at hev
 split at hev
 case h_2=>cases hev
 rename_i k hX
 split at hev
 case h_2=>cases hev
 rename_i s pos he;generalize hg:a.eval x=u at hx;rw[hX]at hx;cases hx with
 |it _ b hb=>
 have hE:=hR.ents k _ he (Gh.knows_mp hb);cases hE with
 |iter _ _ r' hr' hB hh hown=>
 rw[hb]at hr';simp only[bOw]at hr';subst hr';have hget:(getObj b).run P w= .ok (.stringIter s pos) w:=by simp[getObj,Sem.run,hh]
 have hset: ∀o',(setObj b o').run P w= .ok () (kG w b o'):=fun o'=>by simp[setObj,Sem.run,hh,kG]
 split at hev
 ·rename_i hlt;simp only[bOw]at hev;subst hev;have hrel:=hR.write (e':= .iter s (pos+(Utf8.decode s pos).2)) (o':= .stringIter s (pos+(Utf8.decode s pos).2)) hown hh (fun _ _=> .inl (by simp)) (fun _=>by simp) (fun _ h=>by cases h) (fun off h=>by omega)
   (fun m=> .iter s _ b hb hB (kU _ (dY hh)) hown)
  refine jC (x:= .tuple #[.bool true,.int .i64 pos,.int .i32 (Utf8.decode s pos).1]) (G':=G) (w':=kG w b (.stringIter s (pos+(Utf8.decode s pos).2))) ?_ ?_ ?_ ⟨rfl,rfl,rfl,by rw[nH];exact bOy _,fun k hk=>fB _ (by omega)⟩
  ·have hrun:(Instr.next (.pointer (some ⟨b,0,none⟩)) true o.type).run P w= .ok (.tuple #[.bool true,.int .i64 pos,.int .i32 (Utf8.decode s pos).1]) (kG w b (.stringIter s (pos+(Utf8.decode s pos).2))):=by
    simp only[Instr.next,Sem.run_bind,hget,Result.andThen_ok,hlt,if_true,hset,Sem.run_pure,goInt]
   simp[execOp,ho,hg,hrun]
  ·have:W.applyAll st.en [.ent k (some (.iter s (pos+(Utf8.decode s pos).2)))]=st.en.set k (some (.iter s (pos+(Utf8.decode s pos).2))):=rfl;simp only[St.mem,this];exact hrel
  ·refine .tup _ _ rfl (fun i hi=>?_)
   match i,hi with
   |0,_=>exact .bool _
   |1,_=>exact .int _ _
   |2,_=>exact .int _ _
 ·rename_i hge;simp only[bOw]at hev;subst hev
  refine bZ (x:= .tuple #[.bool false]) hR ?_ (.tup _ _ rfl fun i hi=>?_)
  ·have hrun:(Instr.next (.pointer (some ⟨b,0,none⟩)) true o.type).run P w= .ok (.tuple #[.bool false]) w:=by
    simp only[Instr.next,Sem.run_bind,hget,Result.andThen_ok,hge,if_false,Sem.run_pure]
   simp[execOp,ho,hg,hrun]
  ·match i,hi with
   |0,_=>exact .bool _
theorem aCi : ∀(qs:List (Nat×Val)) (ys r:List Val) (s:Nat),dZ ys s qs=some r->r.length=ys.length
 |[],ys,r,s,h=>by simp only[dZ,bOw]at h;subst h;rfl
 |q::qs,ys,r,s,h=>by
  simp only[dZ]at h
  split at h
  ·have:=aCi qs _ _ _ h;simpa using this
  ·cases h
theorem aQt {us:Array Value}{k:Nat}(hR:Rel P Ξ B S G st N a w')(hb:Below B w w')(hf:FR (aX B S G w'.heap.size) Gh.none w' sz xs (us.extract 0 (k*sz)))(hk:xs.length=k)(hC:k<=C)(hus:us.size=C*sz)
  (hrun:(execOp a.eval o).run P w= .ok (.value (.slice (some ⟨w'.heap.size,0,none⟩) k C)) (w'.alloc (.cells us e))):
  eK P Ξ B S st N a w o d {v:= .bl ⟨0,d,st.cnt 0 d⟩ 0 k,ws:=[.ent ⟨0,d,st.cnt 0 d⟩ (some (.blk sz xs false))],bump:=true}:=by
 have hfr:=hR.freshG ⟨0,d,st.cnt 0 d⟩ (bOy _);have hg:=Gh.le_addBlk (b:=w'.heap.size) (base:=0) (sz:=sz) (C:=C) (thr:=0) hfr.2.1;have ho': ∀b,b≠w'.heap.size->(G.addBlk ⟨0,d,st.cnt 0 d⟩ w'.heap.size 0 sz C 0).own b=G.own b:=fun b hb=>by simp[Gh.addBlk,hb]
 have mm:=oU (B:=B) (S:=S) (w:=w') (o:= .cells us e) hg ho';have hget: ∀i j,i<xs.length->j<sz->(us.extract 0 (k*sz)).getD (i*sz+j) undef=us.getD (i*sz+j) undef:=fun i j hi hj=>by
  have:=vZ hi hj;have h2:k*sz<=C*sz:=bP5 _ hC;rw[hk]at this;simp only[bPc,Array.getElem?_extract,bPs,Nat.sub_zero];rw[if_pos (by rw[hus,Nat.min_eq_left h2];exact this)]
 have hrel:=hR.alloc d (.cells us e) (.blk sz xs false) _ hg ho'
  (fun k' hk'=>by simp[Gh.addBlk,hk']) (fun k' t h=>by simp[Gh.addBlk]at h;exact h.1.symm)
  (.blk _ false w'.heap.size 0 _ C 0 _ e (by simp[Gh.addBlk]) hR.size (fF _ _) (by omega) (by omega) hf.len
   (fun i j hi hj=>by rw[bPs,<-hget i j hi hj];exact hf.one i j hi hj) (fun i j hi hj=>by rw[bPs,<-hget i j hi hj];exact((hf.vr i j hi hj).mono mm.none).into _) (by simp[Gh.addBlk]) (by simp))
 refine jC (x:= .slice (some ⟨w'.heap.size,0,none⟩) k C) hrun (by simpa[St.mem,W.applyAll,W.apply]using hrel) ?_ (hb.trans (mY hR _))
 have:=VR.bl (T:=aX B S (G.addBlk ⟨0,d,st.cnt 0 d⟩ w'.heap.size 0 sz C 0) (w'.alloc (.cells us e)).heap.size)
  (G:=G.addBlk ⟨0,d,st.cnt 0 d⟩ w'.heap.size 0 sz C 0) (w:=w'.alloc (.cells us e)) ⟨0,d,st.cnt 0 d⟩ 0 k w'.heap.size 0 sz C (by simp[Gh.addBlk]) (by omega)
 simpa using this
theorem aT8 (hR:Rel P Ξ B S G st N a w)(ho:o.op= .buildSlice t len parts)(ht:P.underlying t=some (.slice e))
  (hz:gK P e=some z) (hzl:z.length=P.cellsOf e) (hp:cU (fun(p:Nat×Operand)=>(do pure (p.1,<-aO p.2):Option (Nat×Opd))) parts.toList=some qs)
  (hl:len*P.cellsOf e<=16777216) (hs:qs.all (fun p=>(St.get st.fr p.2).flat1)=true)
  (hf:dZ (List.replicate len (jM (P.cellsOf e) z false)) (P.cellsOf e) (qs.map fun p=>(p.1,St.get st.fr p.2))=some xs):
  eK P Ξ B S st N a w o d {v:= .bl ⟨0,d,st.cnt 0 d⟩ 0 len,ws:=[.ent ⟨0,d,st.cnt 0 d⟩ (some (.blk (P.cellsOf e) xs false))],bump:=true}:=by
 obtain⟨l1,l2⟩:=vJ (get:=fun q=>q.2) hR hp (fun p q h=>by
  simp only[bPj,bO9,bPl,bOw]at h;obtain⟨y,hy,rfl⟩:=h;exact hy)
 obtain⟨m1,m2⟩:=eR hp;obtain⟨i,v,hi,hzv,hvs,hfr⟩:=aEc (P:=P) (w:=w) (T:=aX B S G w.heap.size) (len:=len) hz hzl;obtain⟨us,h1,h2⟩:=aAa (G:=Gh.none) (w:=w) (T:=aX B S G w.heap.size) (parts.toList.map fun(p:Nat×Operand)=>(p.1,a.eval p.2)) (qs.map fun p=>(p.1,St.get st.fr p.2)) _ _ xs (by simp[l1]) (fun i hi hi'=>by
  simp only[bOz]at hi hi';obtain⟨e1,e2⟩:=l2 i hi hi';simp only[bPj,bO9,bPl,bOw]at e1;obtain⟨y,_,e6⟩:=e1;simp only[List.getElem_map];exact⟨by rw[<-e6],tR e2 (bO4.1 hs _ (bO6 hi'))⟩) hfr hf
 have hxl:xs.length=len:=by simpa using aCi _ _ _ _ hf
 have hus:us.size=len*P.cellsOf e:=by rw[h2.size,hxl]
 refine aQt (us:=us) (C:=len) (e:=e) hR (Below.refl _ _) (by rw[show us.extract 0 (len*P.cellsOf e)=us by rw[<-hus];simp];exact h2) hxl (bOy _) hus ?_
 have hpre: ∀zero:Array Value,zero= #[]->len*P.cellsOf e=0->(Array.range (len*P.cellsOf e)).map (zero[· %zero.size]!)=(Array.range (len*P.cellsOf e)).map (v.cells[· %v.cells.size]!):=by
  intro zero _ h0;rw[h0,Array.range_zero',Array.map_empty,Array.map_empty]
 simp only[execOp,ho,Instr.buildSlice,Sem.run_bind,run_underlying ht,Result.andThen_ok,eE hi];rw[if_neg (by omega)]
 rw[show(parts.map fun(i,x)=>(i,a.eval x)).toList=parts.toList.map fun(p:Nat×Operand)=>(p.1,a.eval p.2)by simp]
 by_cases h0:len*P.cellsOf e=0
 ·simp only[if_pos h0,Sem.run_bind,Sem.run_pure,Result.andThen_ok];rw[hpre _ rfl h0,h1];simp[newRow]
 ·simp only[if_neg h0,Sem.run_bind,gH hi hzv,Sem.run_pure,Result.andThen_ok];rw[h1];simp[newRow]
theorem bF8 (hR:Rel P Ξ B S G st N a w)(ho:o.op= .call {callee:= .builtin .cap,args:= #[x],argTypes:=ts})(ht:ts[0]?=some t)
  (hu:P.underlying t=some (.slice e)) (h1:aO x=some x') (hl:St.get st.fr x'= .cl xs):eK P Ξ B S st N a w o d {v:= .int .i64 xs.length}:=by
 have hx:=aU hR h1;rw[hl]at hx;obtain⟨p,hp⟩: ∃p,a.eval x= .slice p xs.length xs.length:=by
  generalize a.eval x=u at hx;cases hx with
  |cl0 a=>exact⟨_,rfl⟩
  |cl xs b off sz c hs h ht ho hv=>exact⟨_,rfl⟩
 refine bZ (x:= .int .i64 xs.length) hR ?_ (.int _ _)
 simp[execOp,ho,resolve,invoke,builtin,Builtin.cap_,ht,run_underlying hu,hp,goInt]
theorem aF3 (w:World)(t tn ty e:TypeId)(i:TypeInfo)(z:Value)(k kn:IntKind)(ht:P.underlying t=some (.slice e))(htn:P.underlying tn=some (.int kn))(hi:P.info? e=some i)(hz:i.zero=some z)
  (p:Option Addr) (n:Nat) (h0:0<n) (hs:0<i.size) (h63:(n:Int)<=9223372036854775807) (h48:n*i.bytes<=281474976710656):
  (Builtin.append_ #[t,tn] ty #[.slice p 0 0,.int k n]).run P w=
   .ok (.slice (some ⟨w.heap.size,0,none⟩) n (grownCap w n 0 e)) (w.drew.alloc (.cells (Builtin.zeroCells z.cells n++Builtin.zeroCells z.cells (grownCap w n 0 e-n)) e)):=by
 have hn:n≠0:=by omega
 have hw:IntKind.i64.wrap (n:Int)=n:=by rw[IntKind.wrap_i64];omega
 have h63': ¬(9223372036854775807<(n:Int)):=by omega
 have h48': ¬(281474976710656<Builtin.nextslicecap n 0*i.bytes):=by rw[nextslicecap_zero h0];omega
 have h48i: ¬(281474976710656<(n:Int)*(i.bytes:Int)):=by
  rw[<-Int.natCast_mul];omega
 have hneg: ¬((n:Int)<0):=by omega
 have hns: ¬(n*i.size=0):=Nat.mul_ne_zero hn (by omega)
 have hfn:=aBr (P:=P) (size:=i.size) (cap:=0) (p:=p) w.drew;simp[Builtin.append_,run_underlying ht,run_underlying htn,sizeOf,typeInfo,zeroValue,hi,hz,asInt,asIntOf,hw,hn,hneg,hns,h63',h48',h48i,Question.forced,hfn,newRow,grownCap]
theorem aT9 (hR:Rel P Ξ B S G st N a w){tn:TypeId}{m:Int}{kn k:IntKind}(ho:o.op= .call {callee:= .builtin .append,args:= #[x,y],argTypes:= #[t,tn]})(ht:P.underlying t=some (.slice e))(htn:P.underlying tn=some (.int kn))
  (hz:gK P e=some z) (hzl:z.length=P.cellsOf e) (hpos:0<P.cellsOf e) (hby:P.bytesOf e<=1048576) (h1:aO x=some x') (h2:aO y=some y') (hx:St.get st.fr x'= .cl []) (hy:St.get st.fr y'= .int k m) (hm:0<m/\ m<=16777216):
  eK P Ξ B S st N a w o d {v:= .bl ⟨0,d,st.cnt 0 d⟩ 0 m.toNat,ws:=[.ent ⟨0,d,st.cnt 0 d⟩ (some (.blk (P.cellsOf e) (List.replicate m.toNat (jM (P.cellsOf e) z false)) false))],bump:=true}:=by
 have vx:=aU hR h1;have vy:=aU hR h2;rw[hx]at vx;rw[hy]at vy;obtain⟨p,hp⟩: ∃p,a.eval x= .slice p 0 0:=by
  generalize a.eval x=u at vx;cases vx with
  |cl0 a=>exact⟨_,rfl⟩
  |cl xs b off sz c hs h ht ho hv=>exact⟨_,rfl⟩
 have ey:=tQ vy;obtain⟨n,rfl⟩:=bP2 (Int.le_of_lt hm.1);simp only[bPz];obtain⟨i,v,hi,hzv,hvs,_⟩:=aEc (P:=P) (w:=w) (T:=aX B S G w.heap.size) (len:=n) hz hzl;have hsz:P.cellsOf e=i.size:=by simp[Program.cellsOf,hi]
 have hb:P.bytesOf e=i.bytes:=by simp[Program.bytesOf,hi]
 rw[hb]at hby;have h48:n*i.bytes<=281474976710656:=by
  have:=Nat.mul_le_mul (show n<=16777216 by omega) hby
  omega
 have hrun:=aF3 (P:=P) w t tn o.type e i v k kn ht htn hi hzv p n (by omega) (by omega) (by omega) h48
 have hge:=grownCap_ge w n 0 e;have hbd:Below w.heap.size w w.drew:=(Below.refl _ _).drew;have hR':=hR.below hbd;have hvsz:v.cells.size=i.size:=by rw[hvs,hsz]
 obtain⟨_,_,hi2,hzv2,_,hfr⟩:=aEc (P:=P) (w:=w.drew) (T:=aX B S G w.drew.heap.size) (len:=n) hz hzl;rw[hi]at hi2;obtain rfl:=Option.some.inj hi2;rw[hzv]at hzv2;obtain rfl:=Option.some.inj hzv2;have hzc: ∀c:Nat,Builtin.zeroCells v.cells c=(Array.range (c*P.cellsOf e)).map (v.cells[· %v.cells.size]!):=fun c=>by rw[Builtin.zeroCells,hvsz,hsz]
 refine aQt (w':=w.drew) (us:=Builtin.zeroCells v.cells n++Builtin.zeroCells v.cells (grownCap w n 0 e-n)) (C:=grownCap w n 0 e) (e:=e) hR' (Below.refl B w).drew ?_ (by simp) hge ?_ (vL ho (by rw[hp,ey];exact hrun))
 ·have:(Builtin.zeroCells v.cells n++Builtin.zeroCells v.cells (grownCap w n 0 e-n)).extract 0 (n*P.cellsOf e)=(Array.range (n*P.cellsOf e)).map (v.cells[· %v.cells.size]!):=by
   rw[<-hzc n];have:(Builtin.zeroCells v.cells n).size=n*P.cellsOf e:=by rw[oP,hvsz,hsz]
   rw[<-this];simp
  rw[this];exact hfr
 ·rw[bRo,oP,oP,hvsz,<-bQj,hsz]
  congr 1;omega
end
variable {lop:LOp}{op:Op}{I:Operand->Bool}
section
variable {o:Oper}
theorem bEz {α:Type}{a:Array α}{x:α}(h:a.toList=[x]):a= #[x]:=by
 cases a;simp at h;subst h;rfl
theorem aQu {α:Type}{a:Array α}{x y:α}(h:a.toList=[x,y]):a= #[x,y]:=by
 cases a;simp at h;subst h;rfl
theorem aW6 (hR:Rel P Ξ B S G st N a w)(ho:dP P I o.op=some lop)(hev:eval n call 0 d (st.cnt 0 d) st.en (St.get st.fr) lop=some r)
  (h: ∃t x y,o.op= .indexAddr t x y):eK P Ξ B S st N a w o d r:=by
 obtain⟨t,x,i,hop⟩:=h;rw[hop]at ho;simp only[dP]at ho
 split at ho
 ·rename_i e ht
  split at ho
  ·cases ho
  rename_i he;have he:(P.info? e).isSome=true:=eq_true_of_ne_false he;simp only[bPj,bO9,bPl,bOw]at ho;obtain⟨x',h1,i',h2,rfl⟩:=ho;simp only[eval]at hev
  split at hev
  case h_2=>cases hev
  rename_i k j hi;have fz: ∀xs,(St.get st.fr x'= .fz xs \/St.get st.fr x'= .cl xs)->(if 0<=j then(match xs[j.toNat]? with
     |some y=>if y.cells.length=P.cellsOf e then some {v:= .fp y.cells 0}else none
     |none=>none)else none:Option Res)=some r->eK P Ξ B S st N a w o d r:=by
   intro xs hX hev
   split at hev
   case isFalse=>cases hev
   rename_i hj
   split at hev
   case h_2=>cases hev
   rename_i y hy
   split at hev
   case isFalse=>cases hev
   rename_i hl;simp only[bOw]at hev;subst hev;exact aZl hR hop ht he h1 h2 hi hj hX hy hl
  split at hev
  ·exact fz _ (.inl (by assumption)) hev
  ·exact fz _ (.inr (by assumption)) hev
  ·rename_i key off len hX
   split at hev
   case h_2=>cases hev
   rename_i sz ys f hen
   split at hev
   case isFalse=>cases hev
   rename_i hc;simp only[bOw]at hev;subst hev;obtain⟨c1,c2,rfl⟩:=hc;exact aZm hR hop ht he h1 h2 hi ⟨c1,c2⟩ hX hen
  ·cases hev
 ·rename_i m e ht
  split at ho
  ·cases ho
  rename_i he;have he:(P.info? e).isSome=true:=eq_true_of_ne_false he;simp only[bPj,bO9,bPl,bOw]at ho;obtain⟨x',h1,i',h2,rfl⟩:=ho;simp only[eval]at hev
  split at hev
  case h_2=>cases hev
  rename_i k j hi
  split at hev
  case isFalse=>cases hev
  rename_i hj;obtain⟨v,rfl⟩: ∃v,r={v:=v}:=by
   revert hev;split<;>simp only[bOw,reduceCtorEq,false_implies]<;>(rintro rfl;exact⟨_,rfl⟩)
  exact bF0 hR hop ht he h1 h2 hi hj hev
 ·cases ho
theorem aZx (hR:Rel P Ξ B S G st N a w)(ho:dP P I o.op=some lop)(hev:eval n call 0 d (st.cnt 0 d) st.en (St.get st.fr) lop=some r)
  (h: ∃t x y,o.op= .index t x y):eK P Ξ B S st N a w o d r:=by
 obtain⟨t,x,i,hop⟩:=h;rw[hop]at ho;simp only[dP]at ho
 split at ho
 ·rename_i ht;simp only[bPj,bO9,bPl,bOw]at ho;obtain⟨x',h1,i',h2,rfl⟩:=ho;simp only[eval]at hev
  split at hev
  case h_2=>cases hev
  rename_i s k j hX hi
  split at hev
  case isFalse=>cases hev
  rename_i hj;obtain⟨b,hb,rfl⟩:=bPa.1 hev;exact bF1 hR hop ht h1 h2 hi hX hj hb
 ·rename_i m e ht
  split at ho
  ·cases ho
  rename_i he;have he:(P.underlying e).isSome=true:=eq_true_of_ne_false he;simp only[bPj,bO9,bPl,bOw]at ho;obtain⟨x',h1,i',h2,rfl⟩:=ho;simp only[eval]at hev
  split at hev
  case h_2=>cases hev
  rename_i cs k j hX hi
  split at hev
  case isFalse=>cases hev
  rename_i hj;obtain⟨v,hv,rfl⟩:=bPa.1 hev;exact bF2 hR hop ht he h1 h2 hi hX hj hv
 ·cases ho
theorem aZy (hR:Rel P Ξ B S G st N a w)(ho:dP P I o.op=some lop)(hev:eval n call 0 d (st.cnt 0 d) st.en (St.get st.fr) lop=some r)
  (h: ∃t x y,o.op= .store t x y):eK P Ξ B S st N a w o d r:=by
 obtain⟨t,x,y,hop⟩:=h;rw[hop]at ho;simp only[dP]at ho
 split at ho
 case isFalse=>cases ho
 rename_i hi;simp only[bPj,bO9,bPl,bOw]at ho;obtain⟨x',h1,y',h2,rfl⟩:=ho;simp only[eval]at hev
 split at hev
 case isFalse=>cases hev
 rename_i hc
 split at hev
 ·rename_i k off hX
  split at hev
  case h_2=>cases hev
  rename_i cs hen
  split at hev
  case isFalse=>cases hev
  rename_i hl;simp only[bOw]at hev;subst hev;exact aOk hR hop hi h1 h2 hc.1 hc.2 hX hen hl
 ·rename_i k i off hX
  split at hev
  case h_2=>cases hev
  rename_i sz xs hen
  split at hev
  case h_2=>cases hev
  rename_i Y hY
  split at hev
  case isFalse=>cases hev
  rename_i hl
  split at hev
  ·rename_i hd;simp only[bOw]at hev;subst hev;exact aLz hR hop hi h1 h2 hX hen hY hl hd hc.1 hc.2
  split at hev
  case h_2=>cases hev
  rename_i v' ks hs
  split at hev
  case isFalse=>cases hev
  rename_i hk;simp only[bOw]at hev;subst hev
  refine aLy hR hop hi h1 h2 hX hen hY hl hs hk.1 hk.2.1 fun hm=>?_
  have:=bO4.1 hk.2.2 k hm
  simp at this
 ·cases hev
theorem bCx (hcall:lJ P call)(hR:Rel P Ξ B S G st N a w)(ho:dP P I o.op=some lop)(hev:eval n call 0 d (st.cnt 0 d) st.en (St.get st.fr) lop=some r)
  (hme:lop.me 0=0) (h: ∃c,o.op= .call c):eK P Ξ B S st N a w o d r:=by
 obtain⟨c,hop⟩:=h;rw[hop]at ho;simp only[dP]at ho
 split at ho
 ·rename_i F hc
  split at ho
  ·simp only[bPj,bO9,bPl,bOw]at ho;obtain⟨x',h1,ys,h2,rfl⟩:=ho;simp[eval]at hev
  simp only[bPj,bO9,bPl,bOw]at ho;obtain⟨x',h1,ys,h2,rfl⟩:=ho;simp only[eval]at hev
  split at hev
  case h_2=>cases hev
  rename_i f A Z hf
  split at hev
  case h_2=>cases hev
  rename_i rs hs
  split at hev
  case h_2=>cases hev
  rename_i v hv;simp only[bOw]at hev;subst hev;exact bCv hR hcall hop hc h1 h2 hf hs hv
 ·rename_i t name hc;simp only[bPj,bO9,bPl,bOw]at ho;obtain⟨ys,h2,rfl⟩:=ho;simp only[eval]at hev
  split at hev
  case h_2=>cases hev
  rename_i f A Z hf
  split at hev
  case h_2=>cases hev
  rename_i rs hs
  split at hev
  case h_2=>cases hev
  rename_i v hv;simp only[bOw]at hev;subst hev;exact bF4 hR hcall hop hc h2 hf hs hv
 ·rename_i hc;obtain⟨cal,args,ts⟩:=c
  simp only at hc ho;subst hc
  split at ho
  case h_2=>cases ho
  rename_i x hx;have:=bEz hx;subst this
  split at ho
  ·rename_i e ht;obtain⟨t,ht0,ht1⟩:=bO9.1 ht;obtain⟨x',h1,rfl⟩:=bPa.1 ho;simp only[eval]at hev;obtain⟨m,hm,rfl⟩:=bPa.1 hev;simp only[bPj,bO9,bPl,bOw]at hm;obtain⟨m',hm,rfl⟩:=hm;exact aOg hR hop ht0 ht1 h1 hm
  ·rename_i ht;obtain⟨t,ht0,ht1⟩:=bO9.1 ht;obtain⟨x',h1,rfl⟩:=bPa.1 ho;simp only[eval]at hev
   split at hev
   case h_2=>cases hev
   rename_i s hs;simp only[bOw]at hev;subst hev;exact aTz hR hop ht0 ht1 h1 hs
  ·rename_i ht;obtain⟨t,ht0,ht1⟩:=bO9.1 ht;obtain⟨x',h1,rfl⟩:=bPa.1 ho;exact aT7 hR hop ht0 ht1 h1 hev
  ·cases ho
 ·rename_i hc;obtain⟨cal,args,ts⟩:=c
  simp only at hc ho;subst hc
  split at ho
  case h_2=>cases ho
  rename_i t t' x y hts hargs;have:=aQu hts;subst this;have:=aQu hargs;subst this
  split at ho
  case h_2=>cases ho
  rename_i e ht
  split at ho
  case isFalse=>
   obtain⟨z,x',y',kn,htn,hz,h1,h2,hzl,hpos,hby,rfl⟩:=kS ho;simp only[eval]at hev
   split at hev
   case h_2=>cases hev
   rename_i k m hx hy
   split at hev
   case isFalse=>cases hev
   rename_i hm;simp only[bOw]at hev;subst hev;exact aT9 hR hop ht htn hz hzl hpos hby h1 h2 hx hy hm
  rename_i hcond;obtain⟨rfl,hz,hby⟩:=hcond;simp only[bPj,bO9,bPl,bOw]at ho;obtain⟨x',h1,y',h2,rfl⟩:=ho
  by_cases hI:I (.const (.bool true))=true
  ·rw[if_pos hI]at hme;simp[LOp.me]at hme
  ·rw[if_neg hI]at hev;exact aW5 hR hop ht hz hby h1 h2 hev
 ·rename_i hc;obtain⟨cal,args,ts⟩:=c
  simp only at hc ho;subst hc
  split at ho
  case h_2=>cases ho
  rename_i x hx;have:=bEz hx;subst this
  split at ho
  case h_2=>cases ho
  rename_i e ht;obtain⟨t,ht0,ht1⟩:=bO9.1 ht;obtain⟨x',h1,rfl⟩:=bPa.1 ho;simp only[eval]at hev
  split at hev
  case h_2=>cases hev
  rename_i xs hl;simp only[bOw]at hev;subst hev;exact bF8 hR hop ht0 ht1 h1 hl
 all_goals first
  |(cases ho;done)
  |(rename_i hc
    obtain⟨cal,args,ts⟩:=c
    simp only at hc ho;subst hc
    obtain⟨xs,h1,rfl⟩:=bPa.1 ho;simp only[eval]at hev
    split at hev
    case h_2=>cases hev
    rename_i j m k n hx
    split at hev
    case isFalse=>cases hev
    rename_i hjk;subst hjk;simp only[bOw]at hev;subst hev;rcases xs with _|⟨x',_|⟨y',_|⟨z',xs⟩⟩⟩
    ·simp at hx
    ·simp at hx
    ·simp only[bPw,bPf,List.cons.injEq,and_true]at hx;obtain⟨l1,l2⟩:=eR h1;rcases hargs:args.toList with _|⟨x,_|⟨y,_|⟨z,as⟩⟩⟩<;>rw[hargs]at l1 l2
     ·simp at l1
     ·simp at l1
     ·have:=aQu hargs;subst this;have e1:=l2 0 (by simp) (by simp)
      have e2:=l2 1 (by simp) (by simp)
      first
       |exact aMr (mx:=true) hR hop e1 e2 hx.1 hx.2
       |exact aMr (mx:=false) hR hop e1 e2 hx.1 hx.2
     ·simp at l1
    ·simp at hx)
theorem aUa (hcall:lJ P call)(hR:Rel P Ξ B S G st N a w)(ho:dP P I o.op=some lop)(hev:eval n call 0 d (st.cnt 0 d) st.en (St.get st.fr) lop=some r)(hme:lop.me 0=0):eK P Ξ B S st N a w o d r:=by
 have ho':=ho;have hev':=hev;cases hop:o.op<;>rw[hop]at ho
 case panic x=>
  obtain⟨x',h1,rfl⟩:=bPa.1 ho;simp[eval]at hev
 case indexAddr t x y=>exact aW6 hR ho' hev' ⟨_,_,_,hop⟩
 case index t x y=>exact aZx hR ho' hev' ⟨_,_,_,hop⟩
 case store t x y=>exact aZy hR ho' hev' ⟨_,_,_,hop⟩
 case call c=>exact bCx hcall hR ho' hev' hme ⟨_,hop⟩
 case move x=>
  obtain⟨x',h1,rfl⟩:=bPa.1 ho;simp only[eval,bOw]at hev;subst hev;exact bEx hR (.inl hop) h1
 case assign x=>
  obtain⟨x',h1,rfl⟩:=bPa.1 ho;simp only[eval,bOw]at hev;subst hev;exact bEx hR (.inr hop) h1
 case pick c x y=>
  simp only[dP,bPj,bO9,bPl,bOw]at ho;obtain⟨c',h1,x',h2,y',h3,rfl⟩:=ho;simp only[eval]at hev
  split at hev
  case h_2=>cases hev
  rename_i b hb;simp only[bOw]at hev;subst hev;exact bCq hR hop h1 h2 h3 hb
 case alloc t=>
  simp only[dP,bPj,bO9,bPl,bOw]at ho;obtain⟨z,h1,rfl⟩:=ho;simp only[eval,bOw]at hev;subst hev;exact aZi hR hop h1
 case box t x=>
  simp only[dP,bPj,bO9,bPl,bOw]at ho;obtain⟨x',h1,rfl⟩:=ho;simp only[eval]at hev
  split at hev
  case isFalse=>cases hev
  rename_i hc;simp only[bOw]at hev;subst hev;exact bFw hR hop h1 hc.1
 case build t parts=>
  simp only[dP]at ho
  split at ho
  ·rename_i fs ht
   split at ho
   case isFalse=>cases ho
   rename_i hfs;simp only[bPj,bO9,bOw]at ho;obtain⟨z,hz,ps,hp,hx⟩:=ho;simp only[bPl,bOw]at hx;subst hx;simp only[eval]at hev;obtain⟨cs,hcs,rfl⟩:=bPa.1 hev;exact aH6 hR hop ht hfs hz hp hcs
  ·rename_i m e ht
   split at ho
   case isFalse=>cases ho
   rename_i he;simp only[bPj,bO9,bOw]at ho;obtain⟨z,hz,ps,hp,hx⟩:=ho;simp only[bPl,bOw]at hx;subst hx;simp only[eval]at hev;obtain⟨cs,hcs,rfl⟩:=bPa.1 hev;exact aJa hR hop ht he hz hp hcs
  ·cases ho
 case buildSlice t len parts=>
  simp only[dP]at ho
  split at ho
  case h_2=>cases ho
  rename_i e ht;simp only[bPj,bO9]at ho;obtain⟨z,hz,ho⟩:=ho
  split at ho
  case isFalse=>cases ho
  rename_i hzl;simp only[bO9]at ho;obtain⟨qs,hp,hx⟩:=ho;simp only[bPl,bOw]at hx;subst hx
  by_cases hI:I (.const (.bool true))=true
  ·rw[if_pos hI]at hev;simp only[eval]at hev
   split at hev
   case isFalse=>cases hev
   rename_i hl
   split at hev
   case h_2=>cases hev
   rename_i ps hs
   split at hev
   case h_2=>cases hev
   rename_i xs hf;simp only[bOw]at hev;subst hev;exact aJc (F:=id) (fun h=>h) hR hop ht hz hzl hp hl hs hf
  rw[if_neg hI]at hev
  by_cases hI2:I (.const (.bool false))=true
  ·rw[if_pos hI2]at hev;simp only[eval]at hev
   split at hev
   case isFalse=>cases hev
   rename_i hl
   split at hev
   case h_2=>cases hev
   rename_i xs hf;simp only[bOw]at hev;subst hev;exact aT8 hR hop ht hz hzl hp hl.1 hl.2 hf
  rw[if_neg hI2]at hev;simp only[eval]at hev
  split at hev
  case isFalse=>cases hev
  rename_i hl
  split at hev
  case h_2=>cases hev
  rename_i ps hs
  split at hev
  case h_2=>cases hev
  rename_i xs hf;simp only[bOw]at hev;subst hev;exact aJc (F:=Val.wk1) VR.wk1 hR hop ht hz hzl hp hl hs hf
 case load t x=>
  simp only[dP]at ho
  split at ho
  case isFalse=>cases ho
  rename_i hu;obtain⟨x',h1,rfl⟩:=bPa.1 ho;simp only[eval]at hev
  split at hev
  case h_2=>cases hev
  rename_i cs rs hr;obtain⟨v,hv,rfl⟩:=bPa.1 hev;exact bCt hR hop hu h1 hr hv
 case nilCheck x=>
  obtain⟨x',h1,rfl⟩:=bPa.1 ho;simp only[eval]at hev;obtain⟨v,rfl⟩: ∃v,r={v:=v}:=by
   revert hev;split<;>simp only[bOw,reduceCtorEq,false_implies]<;>(rintro rfl;exact⟨_,rfl⟩)
  exact aZj hR hop h1 hev
 case binOp op t x y ty=>
  simp only[dP,bPj,bO9]at ho;obtain⟨e,ht,ho⟩:=ho
  split at ho
  ·rename_i he;subst he
   split at ho
   ·simp only[bO9,bPl,bOw]at ho;obtain⟨x',h1,rfl⟩:=ho;simp only[eval]at hev;obtain⟨v,hv,rfl⟩:=bPa.1 hev;exact aTy hR hop ht h1 hv
   ·cases ho
  ·split at ho
   ·cases ho
   rename_i hif;simp only[bO9,bPl,bOw]at ho;obtain⟨x',h1,y',h2,rfl⟩:=ho;simp only[eval]at hev;obtain⟨v,hv,rfl⟩:=bPa.1 hev;exact bFx hR hop ht (fun he=>by cases hx:mP x<;>cases hy:mP y<;>simp[he,hx,hy]at hif⊢) h1 h2 hv
 case unOp op t x=>
  obtain⟨x',h1,rfl⟩:=bPa.1 ho;simp only[eval]at hev;obtain⟨v,rfl⟩: ∃v,r={v:=v}:=by
   revert hev;split<;>simp only[bOw,reduceCtorEq,false_implies]<;>(rintro rfl;exact⟨_,rfl⟩)
  exact bH8 hR hop h1 (by rw[<-hev];cases op<;>cases St.get st.fr x'<;>rfl)
 case convert s t x=>
  simp only[dP]at ho
  split at ho
  case h_2=>cases ho
  rename_i j k hs ht;obtain⟨x',h1,rfl⟩:=bPa.1 ho;simp only[eval]at hev
  split at hev
  case h_2=>cases hev
  rename_i j m hx;simp only[bOw]at hev;subst hev;exact bCr hR hop hs ht h1 hx
 case makeInterface t x=>
  simp only[dP]at ho
  split at ho
  ·cases ho
  ·cases ho
  ·rename_i h1 h2;obtain⟨x',h3,rfl⟩:=bPa.1 ho;simp only[eval]at hev
   split at hev
   case isFalse=>cases hev
   simp only[bOw]at hev;subst hev;exact aZk hR hop h1 h2 h3
 case makeFunc f x y=>
  cases f<;>simp only[dP,reduceCtorEq,bPj,bO9,bPl,bOw]at ho
  obtain⟨x',h1,y',h2,rfl⟩:=ho;simp only[eval,bOw]at hev;subst hev;exact bCs hR hop h1 h2
 case makeSlice t x y=>
  simp only[dP]at ho
  split at ho
  case h_2=>cases ho
  rename_i e ht;simp only[bPj,bO9]at ho;obtain⟨z,hz,ho⟩:=ho
  split at ho
  case isFalse=>cases ho
  rename_i hzl;simp only[bO9,bPl,bOw]at ho;obtain⟨x',h1,y',h2,rfl⟩:=ho;simp only[eval]at hev
  split at hev
  case h_2=>cases hev
  rename_i m k hx hy
  split at hev
  case isFalse=>cases hev
  rename_i hc;simp only[bOw]at hev;subst hev;obtain⟨rfl,hm⟩:=hc;exact aZo hR hop ht hz hzl.1 hzl.2 h1 h2 hx hy (by simpa[aQh]using hm)
 case slice t x lo hi mx=>
  simp only[dP]at ho
  split at ho
  ·rename_i e ht
   split at ho
   ·cases ho
   rename_i he;simp only[bPj,bO9,bPl,bOw]at ho;obtain⟨x',h1,lo',h2,hi',h3,mx',h4,rfl⟩:=ho;exact aZn hR hop ht (eq_true_of_ne_false he) h1 h2 h3 h4 hev
  ·rename_i ht
   split at ho
   ·cases ho
   rename_i hmx;simp only[bPj,bO9,bPl,bOw]at ho;obtain⟨x',h1,lo',h2,hi',h3,rfl⟩:=ho;have:mx=none:=by cases mx<;>simp at hmx⊢
   subst this;exact aOh hR hop ht h1 h2 h3 hev
  ·cases ho
 case range t x=>
  simp only[dP]at ho
  split at ho
  case h_2=>cases ho
  rename_i ht;obtain⟨x',h1,rfl⟩:=bPa.1 ho;simp only[eval]at hev
  split at hev
  case h_2=>cases hev
  rename_i s hs;simp only[bOw]at hev;subst hev;exact bF6 hR hop ht h1 hs
 case next x b=>
  cases b with
  |false=>simp[dP]at ho
  |true=>
   simp only[dP]at ho;obtain⟨x',h1,rfl⟩:=bPa.1 ho;exact bF7 hR hop h1 hev
 case makeMap t q=>
  cases q with
  |some _=>simp[dP]at ho
  |none=>
   simp only[dP,bOw]at ho;subst ho;simp only[eval,bOw]at hev;subst hev;exact aZv hR hop
 case lookup t x y ok=>
  simp only[dP]at ho
  split at ho
  case h_2=>cases ho
  rename_i kt et ht;simp only[bPj,bO9,bPl,bOw]at ho;obtain⟨e,hK,z,hz,x',h1,y',h2,rfl⟩:=ho;exact bCw hR hop ht hK hz h1 h2 hev
 case mapUpdate t x y v=>
  simp only[dP]at ho
  split at ho
  case h_2=>cases ho
  rename_i kt et ht;simp only[bPj,bO9,bPl,bOw]at ho;obtain⟨e,hK,x',h1,y',h2,v',h3,rfl⟩:=ho;exact aV1 hR (.inl hop) ht hK h1 h2 h3 hev
 case insert t x y v=>
  simp only[dP]at ho
  split at ho
  case h_2=>cases ho
  rename_i kt et ht;simp only[bPj,bO9,bPl,bOw]at ho;obtain⟨e,hK,x',h1,y',h2,v',h3,rfl⟩:=ho;exact aV1 hR (.inr hop) ht hK h1 h2 h3 hev
 case fieldAddr s x i=>
  simp only[dP]at ho
  split at ho
  case h_2=>cases ho
  rename_i fs hs;simp only[bPj,bO9]at ho;obtain⟨f,hf,ho⟩:=ho
  split at ho
  ·cases ho
  rename_i hz;simp only[bO9,bPl,bOw]at ho;obtain⟨x',h1,rfl⟩:=ho;simp only[eval]at hev;obtain⟨v,rfl⟩: ∃v,r={v:=v}:=by
   revert hev;split<;>simp only[bOw,reduceCtorEq,false_implies]<;>(rintro rfl;exact⟨_,rfl⟩)
  exact bH9 hR hop hs hf hz h1 hev
 case field s x i=>
  simp only[dP]at ho
  split at ho
  case h_2=>cases ho
  rename_i fs hs;simp only[bPj,bO9]at ho;obtain⟨f,hf,ho⟩:=ho
  split at ho
  case isFalse=>cases ho
  rename_i hu;simp only[bO9,bPl,bOw]at ho;obtain⟨x',h1,rfl⟩:=ho;simp only[eval]at hev
  split at hev
  case h_2=>cases hev
  rename_i cs hg
  split at hev
  case isFalse=>cases hev
  rename_i hl;obtain⟨v,hv,rfl⟩:=bPa.1 hev;exact bFz hR hop hs hf hu h1 hg hl hv
 case extract x i=>
  obtain⟨x',h1,rfl⟩:=bPa.1 ho;simp only[eval]at hev
  split at hev
  case h_2=>cases hev
  rename_i vs hg;obtain⟨v,hv,rfl⟩:=bPa.1 hev;exact bFy hR hop h1 hg hv
 case typeAssert x xt t ok=>
  simp only[dP]at ho
  split at ho
  ·cases ho
  ·cases ho
  ·rename_i h1 h2;simp only[bPj,bO9,bPl,bOw]at ho;obtain⟨z,hz,x',h3,rfl⟩:=ho;simp only[eval]at hev;obtain⟨v,rfl⟩: ∃v,r={v:=v}:=by
    revert hev
    split
    ·split
     ·simp only[bOw];rintro rfl;exact⟨_,rfl⟩
     ·split
      ·simp only[bOw];rintro rfl;exact⟨_,rfl⟩
      ·intro h;cases h
    ·split
     ·simp only[bOw];rintro rfl;exact⟨_,rfl⟩
     ·intro h;cases h
    ·intro h;cases h
   exact aW3 hR hop (Option.isSome_iff_ne_none.2 h2) h1 hz h3 hev
 all_goals (simp[dP]at ho)
theorem aL1 {x y:Opd}(h:dP P I op=some (.appendD sz x y)): ∃t e X Y,op= .call {callee:= .builtin .append,args:= #[X,Y],argTypes:= #[t,t]}/\ P.underlying t=some (.slice e)/\
  (gK P e).map List.length=some (P.cellsOf e)/\ P.bytesOf e<=1048576/\ sz=P.cellsOf e/\ aO X=some x/\ aO Y=some y:=by
 cases op
 case call c=>
  simp only[dP]at h;obtain⟨cal,args,ts⟩:=c;cases cal with
  |builtin b=>
   cases b<;>simp only at h<;>first
    |(cases h;done)
    |skip
   case append=>
    split at h
    case h_2=>cases h
    rename_i t t' X Y hts hargs;have:=aQu hts;subst this;have:=aQu hargs;subst this
    split at h
    case h_2=>cases h
    rename_i e ht
    split at h
    case isFalse=>
     obtain⟨_,_,_,_,_,_,_,_,_,_,_,h⟩:=kS h;cases h
    rename_i hcond;obtain⟨rfl,hz,hby⟩:=hcond;simp only[bPj,bO9,bPl,bOw]at h;obtain⟨x',h1,y',h2,h⟩:=h
    split at h
    ·simp only[LOp.appendD.injEq]at h;obtain⟨rfl,rfl,rfl⟩:=h;exact⟨_,e,_,_,rfl,ht,hz,hby,rfl,h1,h2⟩
    ·cases h
   all_goals (exfalso;(repeat' split at h)<;>first|contradiction|(simp[bO9,bPa]at h;done)|(have:=kS h;simp at this))
  |_=>exfalso;simp only at h;(repeat' split at h)<;>first|contradiction|(simp[bO9,bPa]at h;done)|(have:=kS h;simp at this)
 case binOp op t x y ty=>
  exfalso
  simp only[dP,bPj,bO9]at h;obtain⟨e,_,h⟩:=h
  split at h
  ·split at h
   ·simp[bO9]at h
   ·cases h
  ·split at h<;>simp[bO9]at h
 case buildSlice t l ps=>
  exfalso
  simp only[dP]at h
  split at h
  ·simp only[bPj,bO9]at h;obtain⟨z,_,h⟩:=h
   split at h
   ·simp only[bO9,bPl,bOw]at h;obtain⟨q,_,h⟩:=h
    (repeat' split at h)<;>cases h
   ·cases h
  ·cases h
 all_goals (exfalso;simp only[dP]at h;(repeat' split at h)<;>first|contradiction|(simp[bO9,bPa]at h;done)|(have:=kS h;simp at this))
theorem aQv (hR:Rel P Ξ B S G st N a w){x y:Opd}(ho:dP P I o.op=some (.appendD sz x y))(hev:eval n call 3 d (st.cnt 3 d) st.en (St.get st.fr) (.appendD sz x y)=some r):eK P Ξ B S st N a w o d r 3:=by
 obtain⟨t,e,X,Y,hop,ht,hz,hby,rfl,h1,h2⟩:=aL1 ho;exact aJd hR hop ht hz hby h1 h2 hev
end
variable {ops:Array Oper}{Q:Exit->Act->World->Prop}{io:Inl}{next:Act->World->Prop}{st':St}
section
variable {o:Oper}
theorem Rel.putO' (h:Rel P Ξ B S G st N a w)(dst:Option Nat){v:Val}{x:Value}(hv:VR (aX B S G w.heap.size) G w v x):
  dst.all (· <N)=true->Rel P Ξ B S G {st with fr:=hZ st.fr dst v} N (a.put dst x) w:=by
 cases dst with
 |none=>exact fun _=>h
 |some d=>exact fun hd=>h.put (by simpa using hd) hv
theorem pV (hR:Rel P Ξ B S G st N a w){g:Option (Nat×Bool)}{b:Bool}(hg:zW ops o.guard=some g)(hw:wanted st.fr g=some b):Region.wanted o (yielded ops a.tmps)=b:=by
 unfold Region.wanted;cases ho:o.guard with
 |none=>
  rw[ho]at hg;simp only[zW,bOw]at hg;subst hg;simp only[wanted,bOw]at hw;exact hw
 |some p=>
  obtain⟨j,want⟩:=p;rw[ho]at hg;simp only[zW]at hg
  split at hg
  case h_2=>cases hg
  rename_i t ht;simp only[bOw]at hg;subst hg;simp only[wanted]at hw;have hf:=hR.frame t;simp only[yielded,ht,bRq]
  split at hw
  ·rename_i b' hb;simp only[bOw]at hw;subst hw;rw[hb]at hf;have e:a.tmps.getD t undef= .bool b':=by
    generalize a.tmps.getD t undef=q at hf;cases hf;rfl
   have:a.tmps[t]?=some (.bool b'):=by
    rw[bPc]at e;cases h:a.tmps[t]? with
    |none=>rw[h]at e;simp[undef]at e
    |some u=>rw[h]at e;simp at e;rw[e]
   simp only[this];cases b'<;>cases want<;>rfl
  ·rename_i hb;simp only[bOw]at hw;subst hw;rw[hb]at hf;have e: ∀b',a.tmps[t]?≠some (.bool b'):=by
    intro b' h;rw[bPc,h]at hf;simp only[bPp]at hf;cases hf
   have:(match a.tmps[t]? with|some (.bool b)=>some b|_=>none)=none:=by
    cases h:a.tmps[t]? with
    |none=>rfl
    |some u=>cases u<;>first|rfl|exact absurd h (e _)
   simp only[this];rfl
  ·cases hw
def yA (P:Program)(Ξ:Env)(B:Nat)(S:Nat->Nat->Prop)(st st':St)(N:Nat)(a:Act)(w:World)(v:Val)(e:Ending)(w':World):Prop:=
 ∃x G',e= .returned x/\ Rel P Ξ B S G' {fr:=st.fr,en:=st'.en,cnt:=st'.cnt} N a w'/\ VR (aX B S G' w'.heap.size) G' w' v x/\ Below B w w'
structure wW (P:Program) (io:Inl):Prop where
 fn: ∀f args v (st0 st':St),io.fn f args st0=some (v,st')→(∃fn,P.funcs[f]?=some fn∧(fn.name== "runtime.NumGoroutine")=false∧fn.body.isNone=false)∧
  ∀(Ξ:Env) (B:Nat) (S:Nat->Nat->Prop) (G:Gh) (st:St) (N:Nat) (a:Act) (w:World) (vals:Array Value),Rel P Ξ B S G st N a w->st0.en=st.en->st0.cnt=st.cnt->vals.size=args.length->
   (∀i,i<args.length->VR (aX B S G w.heap.size) G w (args.getD i .dead) (vals.getD i undef))->Calls P f vals w (yA P Ξ B S st st' N a w v)
 yld: ∀k args v (st0 st':St),io.yld k args st0=some (v,st')->
  ∀(Ξ:Env) (B:Nat) (S:Nat->Nat->Prop) (G:Gh) (st:St) (N:Nat) (a:Act) (w:World) (vals:Array Value) (l:Nat) (ro:Option Nat) (m:Nat),Rel P Ξ B S G st N a w->st0.en=st.en->st0.cnt=st.cnt->G.mp k=some l->vals.size=args.length->
   (∀i,i<args.length->VR (aX B S G w.heap.size) G w (args.getD i .dead) (vals.getD i undef))->
   ∃f tmps assign body,(Instr.yield l vals).run P w= .ok (.round l f tmps assign body) w/\ RoundIn (Fx ro) m P l f tmps assign body w (yA P Ξ B S st st' N a w v)
theorem aG8 {f:Opd}{ys:List Opd}(h:dP P I op=some (.icall f ys)): ∃c F,op= .call c/\ c.callee= .value F/\ aO F=some f/\ jH c.args.toList=some ys:=by
 cases op
 case call c=>
  simp only[dP]at h
  split at h
  ·rename_i F hc
   split at h
   ·simp only[bPj,bO9,bPl,bOw,LOp.icall.injEq]at h;obtain⟨x',h1,ys',h2,rfl,rfl⟩:=h;exact⟨c,F,rfl,hc,h1,h2⟩
   ·simp[bO9]at h
  all_goals (repeat' split at h)<;>first|(simp[bO9,bPa]at h;done)|(have:=kS h;simp at this)
 case binOp op t x y ty=>
  exfalso
  simp only[dP,bPj,bO9]at h;obtain⟨e,_,h⟩:=h
  split at h
  ·split at h
   ·simp[bO9]at h
   ·cases h
  ·split at h<;>simp[bO9]at h
 all_goals (exfalso;simp only[dP]at h;(repeat' split at h)<;>first|contradiction|(simp[bO9,bPa]at h;done)|(have:=kS h;simp at this))
theorem aQw (hio:wW P io)(hR:Rel P Ξ B S G st N a w){x:Opd}{ys:List Opd}{v:Val}(ho:o.op= .call c)(hc:c.callee= .value F)(h1:aO F=some x)(h2:jH c.args.toList=some ys)
  (hev:io.call (St.get st.fr x) (ys.map (St.get st.fr)) {st with fr:=fun _=> .dead}=some (v,st'))    
  (k: ∀x w' G',Rel P Ξ B S G' {fr:=st.fr,en:=st'.en,cnt:=st'.cnt} N a w'->VR (aX B S G' w'.heap.size) G' w' v x->Below B w w'->next (a.put o.dst x) w'):o.wpIn (Fx ro) m P a w next Q:=by
 have hF:=aU hR h1;obtain⟨ly,vy⟩:=oV hR h2;have conv: ∀i,i<ys.length->VR (aX B S G w.heap.size) G w ((ys.map (St.get st.fr)).getD i .dead) ((c.args.map a.eval).getD i undef):=by
  intro i hi;have:=vy i hi;have hi2:i<c.args.size:=by rw[ly]at hi;simpa using hi
  simpa[bO2,bPc,hi,hi2]using this
 unfold Inl.call at hev
 split at hev
 ·rename_i f A Z hf;rw[hf]at hF;generalize hgF:a.eval F=uF at hF;cases hF with
  |fn _ _ _ p q hp hq hvp hvq=>
  obtain⟨⟨fn,hfn,hnm,hbody⟩,hcalls⟩:=hio.fn _ _ _ _ _ hev;have hlen:(p++c.args.map a.eval++q).size=(A++ys.map (St.get st.fr)++Z).length:=by simp[hp,hq,ly]
  have hvals: ∀i,i<(A++ys.map (St.get st.fr)++Z).length->VR (aX B S G w.heap.size) G w ((A++ys.map (St.get st.fr)++Z).getD i .dead) ((p++c.args.map a.eval++q).getD i undef):=by
   intro i hi;simp only[bO2,bPc,bRn,bRp,bPg,bRo,Array.size_map,bOz]at hi⊢;have e1:p.size=A.length:=hp;have e2:c.args.size=ys.length:=by simp[ly]
   rw[e1,e2];split
   ·split
    ·rename_i h;have:=hvp i h;simpa[bO2,bPc]using this
    ·have:=conv (i-A.length) (by omega)
     simpa[bO2,bPc]using this
   ·have:=hvq (i-(A.length+ys.length)) (by omega);simpa[bO2,bPc]using this
  have hrun:(execOp a.eval o).run P w= .ok (.enter f (p++c.args.map a.eval++q)) w:=by
   have hnm': ¬fn.name= "runtime.NumGoroutine" :=by simpa using hnm
   have hbody': ¬fn.body=none:=by intro h;rw[h]at hbody;cases hbody
   simp[execOp,ho,resolve,hc,hgF,Deferred.ofValue,invoke,callFunc,hfn,hnm',hbody']
  refine⟨fun _ _=>trivial,?_⟩
  rw[pU hrun (by simp),Oper.uponIn_enter]
  refine⟨fun h=>by simp[Fx,Fence.wide]at h,?_⟩
  refine pG (Calls.mono (hcalls Ξ B S G st N a w _ hR rfl rfl hlen hvals) ?_)
  rintro e w' ⟨x,G',rfl,hR',hv,hb⟩
  exact k x w' G' hR' hv hb
 ·rename_i key hf;rw[hf]at hF;generalize hgF:a.eval F=uF at hF;cases hF with
  |yld _ l hl=>
  obtain⟨f,tmps,as,bd,hy,hround⟩:=hio.yld _ _ _ _ _ hev Ξ B S G st N a w (c.args.map a.eval) l ro (m-1) hR rfl rfl hl (by simp[ly]) (fun i hi=>conv i (by simpa using hi))
  have hrun:(execOp a.eval o).run P w= .ok (.round l f tmps as bd) w:=by
   simp[execOp,ho,resolve,hc,hgF,Deferred.ofValue,invoke,hy]
  refine⟨fun _ _=>trivial,?_⟩
  rw[pU hrun (by simp),Oper.uponIn_round]
  refine⟨fun h=>by simp[Fx,Fence.wide]at h,RoundIn.mono hround ?_⟩
  rintro e w' ⟨x,G',rfl,hR',hv,hb⟩
  exact k x w' G' hR' hv hb
 ·cases hev
theorem oW (hcall:lJ P call)(hio:wW P io)(hR:Rel P Ξ B S G st N a w){lo:aM}(hl:fD P I ops o=some lo)(hd:lo.dst.all (· <N)=true)
  (hs:step n call io 0 st lo=some (st',r))     (k: ∀a' w' G',Rel P Ξ B S G' st' N a' w'->Below B w w'->next a' w'):
  if Region.wanted o (yielded ops a.tmps)=true then o.wpIn (Fx ro) m P a w next Q else(∀f,o.about P w a.eval=some f->(Fx ro).fn f)/\ next (a.put o.dst undef) w:=by
 simp only[fD,bPj,bO9,bPl,bOw]at hl;obtain⟨lop,hop,g,hg,rfl⟩:=hl;simp only[step]at hs
 split at hs
 ·rename_i hw;simp only[bOw,bO1]at hs;obtain⟨rfl,rfl⟩:=hs;rw[pV hR hg hw,if_neg (by simp)]
  exact⟨fun _ _=>trivial,k _ _ G (hR.putO' o.dst (v:= .tup []) (x:=undef) (.tup [] #[] rfl (fun i hi=>by simp at hi)) hd) (Below.refl _ _)⟩
 ·rename_i hw;rw[pV hR hg hw,if_pos rfl]
  split at hs
  ·rename_i f args
   split at hs
   case h_2=>cases hs
   rename_i v st1 hc;simp only[bOw,bO1]at hs;obtain⟨rfl,rfl⟩:=hs;obtain⟨c,F,e1,e2,e3,e4⟩:=aG8 hop;exact aQw hio hR e1 e2 e3 e4 hc fun x w' G' h1 h2 h3=>k _ _ G' (h1.putO' o.dst h2 hd) h3
  ·split at hs
   case h_2=>cases hs
   rename_i r' hev
   split at hs
   ·cases hs
   simp only[bOw,bO1]at hs;obtain⟨rfl,rfl⟩:=hs
   by_cases hme:lop.me 0=0
   ·rw[hme]at hev k;exact aUa hcall hR hop hev hme ro m next Q fun x w' G' h1 h2 h3=>k _ _ G' (h1.putO' o.dst h2 hd) h3
   ·cases lop with
    |appendD sz x y=>exact aQv hR hop hev ro m next Q fun x w' G' h1 h2 h3=>k _ _ G' (h1.putO' o.dst h2 hd) h3
    |_=>exact absurd rfl hme
 ·cases hs
end
end Go.Abs
