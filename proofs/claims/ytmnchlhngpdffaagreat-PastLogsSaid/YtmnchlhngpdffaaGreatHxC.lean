/- The interpreter of the translated code, and its proof: part C. -/
import Derived.Test.YtmnchlhngpdffaaGreatHxB
import Derived.RecoverIn
import Derived.KernelRfl
import Derived.ProofKit
import Derived.OpenShut
import Derived.JoinedOf
import Derived.Test.YtmnchlhngpdffaaGreatHxA
import Derived.IntWalk
import Derived.ChangeArms
import Derived.ChangeBears
set_option linter.all false
open Array renaming getD_eq_getD_getElem? -> bP6, getElem?_append -> bSk, getElem?_eq_getElem -> bQc, getElem?_eq_some_iff -> bRh, getElem?_replicate -> bRk, getElem_toList -> bSm, length_toList -> bRz, mapM_eq_mapM_toList -> bTa, size_append -> bSi
open Bool renaming and_eq_true -> bPp, and_false -> bQ7, and_true -> bRl, false_and -> bQq, false_eq_true -> bPs, false_or -> bQp, not_eq_true -> bQ0, not_eq_true' -> bQ2, not_false -> bP8, not_true -> bP3, or_eq_true -> bQy, or_true -> bRq, true_and -> bQn
open Int renaming natCast_nonneg -> bSa, toNat_natCast -> bQo
open List renaming all_cons -> bR3, all_eq_true -> bPv, any_eq_true -> bSn, append_nil -> bQr, cons_append -> bR5, countP_le_length -> bS0, drop_eq_getElem_cons -> bQu, drop_eq_nil_iff -> bSy, drop_zero -> bRy, flatMap_cons -> bR8, flatMap_nil -> bRt, foldl_nil -> bR7, getD_cons_zero -> bSq, getD_eq_getElem?_getD -> bPu, getElem?_append -> bSh, getElem?_cons_succ -> bS3, getElem?_cons_zero -> bR9, getElem?_eq_getElem -> bQz, getElem?_eq_some_iff -> bS9, getElem_mem -> bPz, isEmpty_iff -> bSs, length_append -> bP9, length_cons -> bPy, length_eq_zero_iff -> bS6, length_map -> bPr, length_nil -> bP7, map_congr_left -> bRw, map_cons -> bQj, map_nil -> bP1, mem_append -> bQe, mem_append_left -> bR1, mem_append_right -> bRv, mem_cons -> bQm, mem_cons_of_mem -> bRu, mem_cons_self -> bS1, mem_flatMap -> bQ3, mem_map -> bQk, mem_range -> bQl, mem_singleton -> bQ1, nil_append -> bQt, range'_succ -> bSr, range_eq_range' -> bSw, set_cons_succ -> bRs, set_cons_zero -> bRr, take_succ_cons -> bP0, take_zero -> bPw
open Nat renaming add_zero -> bQ9, le_refl -> bPq, le_trans -> bP2, zero_add -> bQh, zero_le -> bPx
open Option renaming bind_eq_bind -> bQb, bind_eq_some_iff -> bP4, bind_some -> bSl, getD_some -> bQg, isNone_iff_eq_none -> bSt, isSome_iff_exists -> bRc, isSome_none -> bRx, map_eq_some_iff -> bP5, map_some -> bQi, pure_def -> bQd
open Option.some renaming injEq -> bPo
open Prod.mk renaming injEq -> bPt
namespace Go.Abs
open Go.RowKit (Below)
variable [Inhabited mS]
variable {n:Nat}{st:St}
theorem yK {L:bH}{x:Ex×St}(h:exec L n aJy st=some x):False:=by
 cases n<;>simp[aJy,exec,St.get]at h
variable {P:Program}
theorem bA1 {L:bH}(hL:qK P L)(hF:aHa P L n)(ih:xO P L n):yI P (fE L (exec L n)):=⟨aPw hL hF,bDt ih⟩
variable {args:List Val}{ex:aZ->St->Option (Ex×St)}{f:Nat}{st':St}{v:Val}
theorem bG5 {L:bH}(h:lD L ex f args st=some (v,st')):st'.fr=st.fr:=by
 simp only[lD]at h
 split at h
 ·cases h
 split at h
 case isFalse=>cases h
 split at h
 ·obtain⟨r,_,he⟩:=bP5.1 h;simp only[bPt]at he;rw[<-he.2]
 split at h
 case h_2=>cases h
 split at h
 case isFalse=>cases h
 obtain⟨vs,_,he⟩:=bP5.1 h;simp only[bPt]at he;rw[<-he.2]
theorem bG6 {L:bH}(h:eG L ex f args st=some (v,st')):st'.fr=st.fr:=by
 simp only[eG]at h
 split at h
 ·cases h
 split at h
 case isFalse=>cases h
 split at h
 case h_2=>cases h
 simp only[bPo,bPt]at h;rw[<-h.2]
theorem bDu {L:bH}(h:aA9 L ex f args st=some (v,st')):st'.fr=st.fr:=by
 simp only[aA9]at h
 split at h
 case h_2=>cases h
 rename_i hi
 split at h
 case h_2=>cases h
 split at h
 case h_2=>cases h
 simp only[bPo,bPt]at h;have:=bG5 hi;rw[<-h.2];exact this
variable {B N m:Nat}{G:Gh}{I:Operand->Bool}{Q:Exit->Act->World->Prop}{S:Nat->Nat->Prop}{ca cb:Code}{e:Ex}{ps:Array Tmp}{w:World}{Ξ:Env}
theorem aKp {L:bH}(hL:qK P L)(hF:aHa P L n){a0:Act}{W0:World}
     {x y:List Val} {p q:Array Value} (hps:ps.toList.all (· <N)=true) (haN:(cF P I ca).dstOk N=true) (hbN:(cF P I cb).dstOk N=true) (hR:Rel P Ξ B S G st N a0 W0) (hB0:Below B w W0)
  (hp:p.size=x.length) (hq:q.size=y.length) (hvp: ∀i,i<x.length->VR (aX B S G W0.heap.size) G W0 (x.getD i .dead) (p.getD i undef)) (hvq: ∀i,i<y.length->VR (aX B S G W0.heap.size) G W0 (y.getD i .dead) (q.getD i undef))
  (hcx:(∃v st2,aA9 L (exec L n) f (x++[.yld ⟨1,0,st.cnt 1 0⟩]++y) {fr:=st.fr,en:=st.en.set ⟨1,0,st.cnt 1 0⟩ (some (.loop st.fr ps.toList (cF P I ca) (cF P I cb) .ready)),cnt:=aC st.cnt 1 0 (st.cnt 1 0+1)}=some (v,st2)/\
   (match st2.en ⟨1,0,st.cnt 1 0⟩with
   |some (.loop _ _ _ _ .ready)=>some (.normal,{st2 with en:=st2.en.set ⟨1,0,st.cnt 1 0⟩ none})
   |some (.loop _ _ _ _ (.done e))=>some (e,{st2 with en:=st2.en.set ⟨1,0,st.cnt 1 0⟩ none})
   |_=>none:Option (Ex×St))=some (e,st')) \/
   ∃v st2,eG L (exec L n) f (x++[.yld ⟨1,0,st.cnt 1 0⟩]++y) {fr:=st.fr,en:=st.en.set ⟨1,0,st.cnt 1 0⟩ (some (.loop st.fr ps.toList (cF P I ca) (cF P I cb) .ready)),cnt:=aC st.cnt 1 0 (st.cnt 1 0+1)}=some (v,st2)/\
    e= .panic v/\ st'={st2 with en:=st2.en.set ⟨1,0,st.cnt 1 0⟩ none}) (hQ: ∀a' w' G' x,e.val x->aG9 P Ξ B S G' st' N e a' w'->Below B w w'->Q (e.toExit x) a' w') (rec:Loop)
  (hrec:rec.state= .ready/\ rec.pending=none/\ rec.tmps=a0.tmps/\ rec.params=ps/\ rec.assign=ca/\ rec.body=cb) (mm:Nat):
  CallsIn (Fx Ξ.ro) mm P f (p++ #[.func (.yield W0.heap.size) #[] #[]]++q) (W0.alloc (.loop rec)) (rangePost (Fx Ξ.ro) m P W0.heap.size Q a0):=by
 obtain⟨rfl1,rfl2,rfl3,rfl4,rfl5,rfl6⟩:=hrec;obtain⟨k,hk⟩: ∃k:Key,k=⟨1,0,st.cnt 1 0⟩:=⟨_,rfl⟩
 have hf:=hR.freshG ⟨1,0,st.cnt 1 0⟩ (bPq _);have hg:=Gh.le_addMp (b:=W0.heap.size) hf.2.2;have ho': ∀b,b≠W0.heap.size->(G.addMp ⟨1,0,st.cnt 1 0⟩ W0.heap.size).own b=G.own b:=fun b hb=>by simp[Gh.addMp,hb]
 have mm1:=pK (B:=B) (S:=S) (w:=W0) (o:= .loop rec) hg ho';have hnew:(W0.alloc (.loop rec)).heap[W0.heap.size]?=some (.loop rec):=fO _ _;have hsz:N<=rec.tmps.size:=by rw[rfl3];exact hR.tmps
 have hfrm: ∀i,VR (aX B S (G.addMp ⟨1,0,st.cnt 1 0⟩ W0.heap.size) (W0.alloc (.loop rec)).heap.size) (G.addMp ⟨1,0,st.cnt 1 0⟩ W0.heap.size) (W0.alloc (.loop rec)) (st.fr i) (rec.tmps.getD i undef):=fun i=>by rw[rfl3];exact(hR.frame i).mono mm1
 have hmk:(G.addMp ⟨1,0,st.cnt 1 0⟩ W0.heap.size).mp ⟨1,0,st.cnt 1 0⟩=some W0.heap.size:=by simp[Gh.addMp]
 have how:(G.addMp ⟨1,0,st.cnt 1 0⟩ W0.heap.size).own W0.heap.size=some (⟨1,0,st.cnt 1 0⟩,0):=by simp[Gh.addMp]
 have hE:ER P B (aX B S (G.addMp ⟨1,0,st.cnt 1 0⟩ W0.heap.size) (W0.alloc (.loop rec)).heap.size) (G.addMp ⟨1,0,st.cnt 1 0⟩ W0.heap.size) (W0.alloc (.loop rec)) ⟨1,0,st.cnt 1 0⟩ (.loop st.fr ps.toList (cF P I ca) (cF P I cb) .ready):=
  ER.loop st.fr ps.toList (cF P I ca) (cF P I cb) .ready W0.heap.size rec I N hmk hR.size hnew (by rw[rfl4]) (by rw[rfl5]) (by rw[rfl6]) hsz hps haN hbN hfrm ⟨rfl1,rfl2⟩ how
 have hR1:=hR.allocN 1 0 (.loop rec) (.loop st.fr ps.toList (cF P I ca) (cF P I cb) .ready) (G.addMp ⟨1,0,st.cnt 1 0⟩ W0.heap.size) hg ho' (fun k' hk'=>⟨rfl,rfl,by simp[Gh.addMp,hk']⟩) (fun k' t h=>by rw[how]at h;simp only[bPo,bPt]at h;exact h.1.symm) hE
 let Ξ2:Env:={Ξ with prs:=fun u z=>Ξ.prs u z \/(u= .yld ⟨1,0,st.cnt 1 0⟩/\ z= .func (.yield W0.heap.size) #[] #[])}
 have hyl:VR (aX B S (G.addMp ⟨1,0,st.cnt 1 0⟩ W0.heap.size) (W0.alloc (.loop rec)).heap.size) (G.addMp ⟨1,0,st.cnt 1 0⟩ W0.heap.size) (W0.alloc (.loop rec)) (.yld ⟨1,0,st.cnt 1 0⟩) (.func (.yield W0.heap.size) #[] #[]):= .yld _ _ (by simp[Gh.addMp])
 have hR2:Rel P Ξ2 B S (G.addMp ⟨1,0,st.cnt 1 0⟩ W0.heap.size) {fr:=st.fr,en:=st.en.set ⟨1,0,st.cnt 1 0⟩ (some (.loop st.fr ps.toList (cF P I ca) (cF P I cb) .ready)),cnt:=aC st.cnt 1 0 (st.cnt 1 0+1)} N a0 (W0.alloc (.loop rec)):=
  ⟨hR1.size,hR1.tmps,hR1.frame,hR1.marks,hR1.ents,hR1.freshEn,hR1.freshG,hR1.own,fun u z hu=>hu.elim (fun hu=>hu.elim (fun h=>hR1.extra u z (.inl h)) fun h=>by rw[h.1,h.2];exact hyl) fun h=>hR1.extra u z (.inr h),hR1.round,hR1.defs,hR1.virt⟩
 have hszv:(p++ #[Value.func (.yield W0.heap.size) #[] #[]]++q).size=(x++[Val.yld ⟨1,0,st.cnt 1 0⟩]++y).length:=by simp only[bSi,bP9,hp,hq];rfl
 have hvrs: ∀i,i<(x++[Val.yld ⟨1,0,st.cnt 1 0⟩]++y).length->VR (aX B S (G.addMp ⟨1,0,st.cnt 1 0⟩ W0.heap.size) (W0.alloc (.loop rec)).heap.size) (G.addMp ⟨1,0,st.cnt 1 0⟩ W0.heap.size) (W0.alloc (.loop rec))
   ((x++[Val.yld ⟨1,0,st.cnt 1 0⟩]++y).getD i .dead) ((p++ #[Value.func (.yield W0.heap.size) #[] #[]]++q).getD i undef):=by
  intro i hi;simp only[bP9,bPy,bP7]at hi;simp only[bPu,bP6,bSh,bSk,bP9,bSi,bPy,bP7,hp];rw[show(#[Value.func (.yield W0.heap.size) #[] #[]]:Array Value).size=1 from rfl]
  split
  ·split
   ·rename_i h;have:=(hvp i h).mono mm1;simpa[bPu,bP6]using this
   ·have:i-x.length=0:=by omega
    rw[this];exact hyl
  ·have:=(hvq (i-(x.length+(0+1))) (by omega)).mono mm1;simpa[bPu,bP6]using this
 rcases hcx with⟨v,st2,hcall,hx⟩|⟨v,st2,hcall,rfl,rfl⟩
 case inr=>
  obtain⟨_,hcalls⟩:=aKl hL hF _ _ _ _ _ hcall;have hc:=hcalls Ξ2 B S _ _ N a0 _ _ hR2 rfl rfl hszv hvrs
  refine pU (ro:=Ξ.ro) (m:=mm) (Calls.mono hc ?_)
  rintro e1 w3 ⟨z,G3,rfl,hzv,hR3,hb3⟩
  have hb:Below B w w3:=(hB0.trans ((Below.refl B W0).alloc hR.size _)).trans hb3;have hw':=hR3.drop ⟨1,0,st.cnt 1 0⟩;have hfr:=bG6 hcall
  refine hQ a0 w3 G3 z hzv ?_ hb
  have hst:({st2 with en:=st2.en.set ⟨1,0,st.cnt 1 0⟩ none}:St)={fr:=st.fr,en:=st2.en.set ⟨1,0,st.cnt 1 0⟩ none,cnt:=st2.cnt}:=by rw[<-hfr]
  rw[hst]
  refine Rel.e (Ξ:=Ξ) ⟨hw'.size,hw'.tmps,hw'.frame,hw'.marks,hw'.ents,hw'.freshEn,hw'.freshG,hw'.own,fun u z hu=>hw'.extra u z (hu.imp_left .inl),hw'.round,hw'.defs,hw'.virt⟩
 obtain⟨_,hcalls⟩:=aPw hL hF _ _ _ _ _ hcall;have hc:=hcalls Ξ2 B S _ _ N a0 _ _ hR2 rfl rfl hszv hvrs
 refine pU (ro:=Ξ.ro) (m:=mm) (Calls.mono hc ?_)
 ·rintro e1 w3 ⟨z,G3,rfl,hR3,_,hb3⟩
  have hb:Below B w w3:=(hB0.trans ((Below.refl B W0).alloc hR.size _)).trans hb3;have hy3:=hR3.extra (.yld ⟨1,0,st.cnt 1 0⟩) (.func (.yield W0.heap.size) #[] #[]) (.inl (.inr ⟨rfl,rfl⟩));have hfr:=bDu hcall;have done: ∀{fr3:Nat->Val} {ps3:List Nat} {la3 lb3:aZ} {q3:LSt},st2.en ⟨1,0,st.cnt 1 0⟩=some (.loop fr3 ps3 la3 lb3 q3)->q3≠ .busy-> ∃rec3,w3.heap[W0.heap.size]?=some (.loop rec3)/\ bAa q3 rec3/\ (rec3.state≠ .busy->
    Rel P Ξ B S G3 {fr:=st.fr,en:=st2.en.set ⟨1,0,st.cnt 1 0⟩ none,cnt:=st2.cnt} N a0 (w3.putObj W0.heap.size (.loop {rec3 with state:= .exhausted}))/\ Below B w (w3.putObj W0.heap.size (.loop {rec3 with state:= .exhausted}))):=by
   intro fr3 ps3 la3 lb3 q3 he3 _;cases hy3 with
   |yld _ _ hmp3=>
   have hE:=hR3.ents _ _ he3 (Gh.knows_mp hmp3);cases hE with
   |loop _ _ _ _ _ l3 rec3 I3 N3 hl3 hB3 hh3 hps3 ha3 hb3' hN3 hpN3 haN3 hbN3 hf3 hst3 hown3=>
   rw[hmp3]at hl3;simp only[bPo]at hl3;subst hl3
   refine⟨rec3,hh3,hst3,fun _=>?_⟩
   have hw:=(hR3.write (e':= .loop fr3 ps3 la3 lb3 .over) (o':= .loop {rec3 with state:= .exhausted}) hown3 hh3 (fun _ _=> .inl (by simp)) (fun _=>by simp) (fun r _=>⟨_,rfl⟩) (fun off h=>by omega)
    (fun m=> .loop fr3 ps3 la3 lb3 .over _ _ I3 N3 hmp3 hB3 (lJ _ (eD hh3)) hps3 ha3 hb3' hN3 hpN3 haN3 hbN3 (fun i=>(hf3 i).mono m) rfl hown3)).drop ⟨1,0,st.cnt 1 0⟩
   rw[aIf]
   refine⟨?_,hb.trans (tU hB3)⟩
   have hen:(st2.en.set ⟨1,0,st.cnt 1 0⟩ (some (.loop fr3 ps3 la3 lb3 .over))).set ⟨1,0,st.cnt 1 0⟩ none=st2.en.set ⟨1,0,st.cnt 1 0⟩ none:=by
    funext k';simp only[En.set];split<;>rfl
   have hw':Rel P Ξ2 B S G3 {fr:=st.fr,en:=st2.en.set ⟨1,0,st.cnt 1 0⟩ none,cnt:=st2.cnt} N a0 (kX w3 W0.heap.size (.loop {rec3 with state:= .exhausted})):=by
    rw[<-hen];exact hw
   exact⟨hw'.size,hw'.tmps,hw'.frame,hw'.marks,hw'.ents,hw'.freshEn,hw'.freshG,hw'.own,fun u z hu=>hw'.extra u z (hu.imp_left .inl),hw'.round,hw'.defs,hw'.virt⟩
  have hst:({fr:=st2.fr,en:=st2.en.set ⟨1,0,st.cnt 1 0⟩ none,cnt:=st2.cnt}:St)={fr:=st.fr,en:=st2.en.set ⟨1,0,st.cnt 1 0⟩ none,cnt:=st2.cnt}:=by rw[hfr]
  split at hx
  ·rename_i he3;obtain⟨rec3,hh3,hq3,hfin⟩:=done he3 (by simp)
   obtain⟨r1,r2⟩:=hfin (by rw[hq3.1];simp)
   simp only[bPo,bPt]at hx;obtain⟨rfl,rfl⟩:=hx
   refine⟨_,_,run_endLoop hh3 (by rw[hq3.1];simp),?_⟩
   have hq:=hQ a0 _ G3 undef trivial (by rw[hst];exact r1.e) r2
   split
   ·exact hq
   ·rename_i c hc;rw[hq3.2]at hc;cases hc
  ·rename_i e3 he3;obtain⟨rec3,hh3,hq3,hfin⟩:=done he3 (by simp)
   obtain⟨r1,r2⟩:=hfin (by rw[hq3.1];simp)
   simp only[bPo,bPt]at hx;obtain⟨rfl,rfl⟩:=hx
   refine⟨_,_,run_endLoop hh3 (by rw[hq3.1];simp),?_⟩
   have hq:=hQ a0 _ G3 undef (by cases e3<;>first|trivial|(have:=hq3.2.2.2;cases this)) (by rw[hst];exact r1.e) r2
   split
   ·rename_i hc;rw[hq3.2.1]at hc;cases hc
   rename_i c hc;rw[hq3.2.1,bPo]at hc;subst hc;cases e3 with
   |normal=>exact absurd rfl hq3.2.2.1
   |panic v=>have:=hq3.2.2.2;cases this
   |exit id=>exact wpIn_exit hq
   |ret=>exact wpIn_ret hq
  ·cases hx
variable {a:Act}
theorem aVn {L:bH}(hL:qK P L)(hF:aHa P L n){g:Operand}{g':Opd}
    (hg:aP g=some g') (hps:ps.toList.all (· <N)=true) (haN:(cF P I ca).dstOk N=true) (hbN:(cF P I cb).dstOk N=true) (hnm:Ξ.nm=false) (hR:Rel P Ξ B S G st N a w)
  (hx:oB L (exec L n) (St.get st.fr g') ps.toList (cF P I ca) (cF P I cb) st=some (e,st')) (hQ: ∀a' w' G' x,e.val x->aG9 P Ξ B S G' st' N e a' w'->Below B w w'->Q (e.toExit x) a' w'):
  (Code.rangeFunc g ps ca cb).wpIn (Fx Ξ.ro) m P Q a w:=by
 unfold oB at hx
 split at hx
 case h_2=>cases hx
 rename_i f x y hgv;have hG:=aU hR hg;rw[hgv]at hG;generalize hgF:a.eval g=uF at hG;cases hG with
 |fn _ _ _ p q hp hq hvp hvq=>
 simp only at hx
 obtain⟨⟨fn,hfn,hnm1,hbody⟩,hcx⟩:(∃fn,P.funcs[f]?=some fn∧(fn.name== "runtime.NumGoroutine")=false∧fn.body.isNone=false)∧((∃v st2,aA9 L (exec L n) f (x++[.yld ⟨1,0,st.cnt 1 0⟩]++y) {fr:=st.fr,en:=st.en.set ⟨1,0,st.cnt 1 0⟩ (some (.loop st.fr ps.toList (cF P I ca) (cF P I cb) .ready)),cnt:=aC st.cnt 1 0 (st.cnt 1 0+1)}=some (v,st2)∧
   (match st2.en ⟨1,0,st.cnt 1 0⟩with
   |some (.loop _ _ _ _ .ready)=>some (.normal,{st2 with en:=st2.en.set ⟨1,0,st.cnt 1 0⟩ none})
   |some (.loop _ _ _ _ (.done e))=>some (e,{st2 with en:=st2.en.set ⟨1,0,st.cnt 1 0⟩ none})
   |_=>none:Option (Ex×St))=some (e,st')) \/
   ∃v st2,eG L (exec L n) f (x++[.yld ⟨1,0,st.cnt 1 0⟩]++y) {fr:=st.fr,en:=st.en.set ⟨1,0,st.cnt 1 0⟩ (some (.loop st.fr ps.toList (cF P I ca) (cF P I cb) .ready)),cnt:=aC st.cnt 1 0 (st.cnt 1 0+1)}=some (v,st2)/\
    e= .panic v/\ st'={st2 with en:=st2.en.set ⟨1,0,st.cnt 1 0⟩ none}):=by
  split at hx
  ·rename_i v st2 hcall;exact⟨(aPw hL hF _ _ _ _ _ hcall).1,.inl ⟨v,st2,hcall,hx⟩⟩
  ·split at hx
   case h_2=>cases hx
   rename_i v st2 hcall;simp only[bPo,bPt]at hx;exact⟨(aKl hL hF _ _ _ _ _ hcall).1,.inr ⟨v,st2,hcall,hx.1.symm,hx.2.symm⟩⟩
 have hnm': ¬fn.name= "runtime.NumGoroutine" :=by simpa using hnm1
 have hbody': ¬fn.body=none:=by intro h;rw[h]at hbody;cases hbody
 have call: ∀(l:Nat) (W:World),(resolve a.eval (rangeCall g l) 0).run P W= .ok {target:= .fn (.func f) q,args:=p++ #[.func (.yield l) #[] #[]]} W/\
   (invoke (.fn (.func f) q) (p++ #[.func (.yield l) #[] #[]])).run P W= .ok (.enter f (p++ #[.func (.yield l) #[] #[]]++q)) W:=by
  intro l W;constructor
  ·have hc:a.eval (.const (.func (.yield l) #[] #[]))= .func (.yield l) #[] #[]:=rfl;simp[resolve,rangeCall,hgF,Deferred.ofValue,hc]
  ·simp[invoke,callFunc,hfn,hnm',hbody']
 refine wpIn_rangeFunc fun fnid _=>?_
 have below_vr: ∀{W:World},Below w.heap.size w W->(∀i,i<x.length->VR (aX B S G W.heap.size) G W (x.getD i .dead) (p.getD i undef))/\ ∀i,i<y.length->VR (aX B S G W.heap.size) G W (y.getD i .dead) (q.getD i undef):=
  fun hb=>⟨fun i hi=>(hvp i hi).mono (rP hb),fun i hi=>(hvq i hi).mono (rP hb)⟩
 cases hro:Ξ.ro with
 |none=>
  have hb0:Below w.heap.size w (w.alloc (.deferred (some []))):=(Below.refl _ w).alloc (bPq _) _;have hR0:=hR.below hb0;obtain⟨Ds,d1,d2,d3⟩:=hR0.marks;have hnew:(w.alloc (.deferred (some []))).heap[w.heap.size]?=some (.deferred (some [])):=fO _ _;have hold: ∀D∈Ds,D<w.heap.size:=fun D hD=>by
   obtain⟨Ds',d1',d2',d3'⟩:=hR.marks;have:Ds.map zL=Ds'.map zL:=List.append_cancel_right (by rw[<-d1,<-d1'])
   have hm:zL D∈Ds'.map zL:=by rw[<-this];exact bQk.2 ⟨D,hD,rfl⟩
   obtain⟨D',h1,h2⟩:=bQk.1 hm;have:D'=D:=by simpa[zL]using h2
   subst this;exact eD (d3' _ h1).2.2
  have hR1:Rel P Ξ B S G st N {a with defers:=[zL w.heap.size]++a.defers} (w.alloc (.deferred (some []))):=
   ⟨hR0.size,hR0.tmps,hR0.frame,⟨w.heap.size::Ds,by simp[d1],⟨by rw[List.nodup_cons];exact⟨fun h=>by have:=hold _ h;omega,d2.1⟩,fun h=>by rw[hnm]at h;cases h⟩,fun D hD=>by
     rcases bQm.1 hD with rfl|hD
     ·exact⟨hR.size,fun h=>by have:=eD (hR.defs _ h);omega,hnew⟩
     ·exact d3 D hD⟩,hR0.ents,hR0.freshEn,hR0.freshG,hR0.own,hR0.extra,hR0.round,hR0.defs,hR0.virt⟩
  obtain⟨v1,v2⟩:=below_vr hb0
  refine⟨_,_,_,_,_,f,_,_,by rw[show(Fx none).round=none from rfl];exact run_enterLoop_outer fnid a.tmps ps ca cb,(call _ _).1,fun _ _=>trivial,(call _ _).2,fun h=>by simp[Fx,Fence.wide]at h,?_⟩
  have:=aKp hL hF (Q:=Q) (m:=m) hps haN hbN hR1 (Below.mono hb0 hR.size) hp hq v1 v2 hcx hQ {state:= .ready,pending:=none,fn:=fnid,tmps:=a.tmps,params:=ps,assign:=ca,body:=cb,defers:=w.heap.size} ⟨rfl,rfl,rfl,rfl,rfl,rfl⟩ (m-1);rw[hro,size_alloc]at this;exact this
 |some l0=>
  obtain⟨r0,hr0⟩:=hR.round l0 (.inl hro)
  refine⟨_,_,_,_,_,f,_,_,by rw[show(Fx (some l0)).round=some l0 from rfl];exact run_enterLoop_inner hr0 fnid a.tmps ps ca cb,(call _ _).1,fun _ _=>trivial,(call _ _).2,fun h=>by simp[Fx,Fence.wide]at h,?_⟩
  have:=aKp hL hF (Q:=Q) (m:=m) hps haN hbN hR (Below.refl _ _) hp hq hvp hvq hcx hQ {state:= .ready,pending:=none,fn:=fnid,tmps:=a.tmps,params:=ps,assign:=ca,body:=cb,defers:=r0.defers} ⟨rfl,rfl,rfl,rfl,rfl,rfl⟩ (m-1);rw[hro]at this;exact this
variable {c:Code}{cs:List Frame}
section
variable {b:Frame}{k:List Item}{F:Fence}
theorem oG :Go.step P (lone (b.atR a (.code (.scope c)::k)) cs w)= .next (lone (b.atR a (.code c:: .inScope c::k)) cs w):=
 step_lone_go (by simp[stepG,stepG.exec,Frame.atR])
theorem aKq :Go.step P (lone (b.atR a (.inScope c::k)) cs w)= .next (lone (b.atR a k) cs w):=
 step_lone_go (by simp[stepG,stepG.exec,Frame.atR])
theorem aSa (h:c.wpIn F n P (Exit.noGoto Q) a w):(Code.scope c).wpIn F n P Q a w:=by
 intro b k cs hro hb hr;have h0:(lone (b.atR a (.code (.scope c)::k)) cs w).fenced P F:=fenced_calm hb hr rfl;obtain⟨e,a₁,w₁,hq,harr⟩:=h b (.inScope c::k) cs hro hb hr;cases e with
 |normal=>exact⟨.normal,a₁,w₁,hq,.head h0 oG (StepsIn.trans harr (.one (fenced_calm hb hr rfl) aKq))⟩
 |exit id'=>
  have hx:exitTo id' (.inScope c::k)=exitTo id' k:=by simp[exitTo]
  exact⟨.exit id',a₁,w₁,hq,fun k' hk=> .head h0 oG (harr.1 k' (by rw[hx];exact hk)),
   fun hr' hk=>let ⟨k₁,h1,h2⟩:=harr.2 hr' (by rw[hx];exact hk);⟨k₁,h1,.head h0 oG h2⟩⟩
 |goto l=>exact hq.elim
 |ret=>exact⟨_,a₁,w₁,hq,.of_steps (.one h0 oG) harr⟩
 |panic ch=>exact⟨_,a₁,w₁,hq,.of_steps (.one h0 oG) harr⟩
 |outgrown=>exact⟨_,a₁,w₁,hq,.of_steps (.one h0 oG) harr⟩
end
theorem aYe (hm:P.follows .mixedOrders=true){L:bH}(hL:qK P L)(hc:lZ P (bL L 8 (exec L n)))(hF:aHa P L n)(ihs: ∀m,m<=n->xO P L m):xO P L (n+1):=by
 have ih:=ihs n (bPq _);have hio:=bA1 hL hF ih;intro I N c
 induction c<;>intro st e st' Ξ B S G a w Q m hd hnr hR hx hQ
 case skip=>
  simp only[cF,exec,bPo,bPt]at hx;obtain⟨rfl,rfl⟩:=hx;exact wpIn_skip (hQ a w G undef trivial hR.e (Below.refl _ _))
 case label l=>
  simp only[cF,exec,bPo,bPt]at hx;obtain⟨rfl,rfl⟩:=hx;exact wpIn_label (hQ a w G undef trivial hR.e (Below.refl _ _))
 case region id ops dr=>
  cases dr with
  |false=>
   simp only[cF,bPs,if_false]at hd hx;cases hlow:cT (fL P I ops) ops.toList with
   |none=>rw[hlow]at hx;exact(yK hx).elim
   |some l=>
    rw[hlow]at hx hd;simp only[bQi,bQg]at hx hd;cases hX:l.any (aE4 I)with
    |true=>
     simp only[hX,if_true]at hx hd;rw[exec]at hx
     refine wpIn_region ?_
     rw[bSw];exact aVh hc hio (aVm hL hF) (aKl hL hF) hlow hd ops.size 0 st st' e G a w (by omega) hR (by simpa using hx) hQ
    |false=>
    simp only[hX,bPs,if_false]at hx hd;rw[exec]at hx;obtain⟨s1,hrun,he⟩:=bP5.1 hx;simp only[bPt]at he;obtain⟨rfl,rfl⟩:=he
    refine wpIn_region ?_
    rw[bSw];exact aYa hc hio hlow hd ops.size 0 st s1 G a w (by omega) hR (by simpa using hrun) fun a' w' G' h1 h2=>hQ a' w' G' undef trivial h1.e h2
  |true=>
   simp only[cF,if_true]at hd hx;cases hld:aPd P I ops with
   |none=>rw[hld]at hx;exact(yK hx).elim
   |some c'=>
    rw[hld]at hx hd;simp only[aPd,bQb,bP4,bQd,bPo]at hld;obtain⟨l,hlow,an,han,ps,hps,rfl⟩:=hld;have hb:Below w.heap.size w {w with drawn:=w.drawn+1}:=(Below.refl _ w).drew;have hd':l.all (fun o=>o.dst.all (· <N))=true:=by
     cases hX:l.any (aE4 I)with
     |false=>simpa[hX,aZ.dstOk]using hd
     |true=>
      cases hlt:aUw an l<;>simpa[hX,hlt,aZ.dstOk]using hd
    have drawOk: ∀s1 rs,jH 8 (bL L 8 (exec L n)) (fE L (exec L n)) 0 l st=some (s1,rs)->dP rs ps=true->e= .normal->st'=s1->(Code.region id ops true).wpIn (Fx Ξ.ro) m P Q a w:=by
     rintro s1 rs hrun hok rfl rfl
     refine wpIn_region_any hm (aYb (Ξ:=Ξ) (B:=B) (S:=S) hc hio hlow hd' han hps hrun hok ops.size (Array.replicate ops.size false) G a _ (by simp) ?_ ?_ ?_ ?_)
     ·refine bP2 bS0 (by simp)
     ·intro j o ho hL;simp[bRk]at hL
      split at hL<;>simp at hL
     ·rw[cN (L':=fun _=>false) fun i _=>by simp[bRk];split<;>simp]
      have: ∀(k:Nat),dO (fun k=>eY (l.getD k default) (rs.getD k cE)) (fun _=>false) st k=st:=by
       intro k;induction k with
       |zero=>rfl
       |succ k ih=>simp only[dO,bPs,if_false];exact ih
      rw[this];exact hR.below hb
     ·exact fun a' w' G' h1 h2=>hQ a' w' G' undef trivial h1.e ⟨h2.os,h2.tape,h2.output,h2.size,h2.block⟩
    cases hX:l.any (aE4 I)with
    |true=>
     simp only[hX,if_true,bQg]at hx;cases hlt:aUw an l with
     |some A=>
      simp only[hlt]at hx;rw[exec]at hx;have hlate:=List.find?_some hlt;have hA:A<l.length:=bQl.1 (List.mem_of_find?_eq_some hlt);simp only[aZ8,bPp,bSs,bSt,bRc]at hlate;obtain⟨⟨⟨⟨_,hg⟩,hop⟩,d,hdst⟩,_⟩:=hlate;obtain⟨z,hAo⟩: ∃z,l.getD A default={dst:=some d,op:= .alloc z,guard:=none}:=by
       generalize l.getD A default=o at hg hop hdst;obtain⟨od,oo,og⟩:=o
       simp only at hg hop hdst
       subst hg hdst;cases oo<;>first|exact⟨_,rfl⟩|cases hop
      have hkey:iP st (l.getD A default)=⟨0,d,st.cnt 0 d⟩:=by rw[hAo];rfl
      have hz:aNr (l.getD A default).op=z:=by rw[hAo];rfl
      rw[hkey,hz]at hx;have hvk: ¬Ξ.virt ⟨0,d,st.cnt 0 d⟩:=fun hv=>by have:=(hR.virt _ hv).2;simp at this
      have hR':=(hR.below hb).reserve (k:=⟨0,d,st.cnt 0 d⟩) (z:=z) rfl;have hek:(wL ⟨0,d,st.cnt 0 d⟩ z st).en ⟨0,d,st.cnt 0 d⟩=some (.box z false):=by simp[wL,En.set]
      unfold yE at hx
      split at hx
      ·rename_i j hj
       split at hx
       case h_2=>cases hx
       rename_i s1 rs hrun
       split at hx
       case isFalse=>cases hx
       rename_i hck;rw[bPp]at hck
       split at hx
       case h_2=>cases hx
       rename_i v s2 hpj;simp only[bPo,bPt]at hx;obtain⟨rfl,rfl⟩:=hx;have hjl:j<l.length:=by have:=aKj _ hj;rw[qL]at this;omega
       have hjA:j≠A:=by
        rintro rfl
        rw[uU hA,if_pos rfl]at hpj;simp[dS,aAv,wanted]at hpj
       exact wpIn_region_any hm (aYd (Ξ:=Ξ) (B:=B) (S:=S) hc hio (aVm hL hF) (aKl hL hF) hlow hd' han hps hA hAo hvk rfl hjl hjA hrun hck.1 hck.2 hek hpj hR'
        fun a' w' G' x h1 h2 h3=>hQ a' w' G' x h1 h2 ⟨h3.os,h3.tape,h3.output,h3.size,h3.block⟩)
      ·split at hx
       case h_2=>cases hx
       rename_i s1 rs hrun
       split at hx
       case isFalse=>cases hx
       rename_i hck;rw[bPp]at hck;simp only[bPo,bPt]at hx;obtain⟨rfl,rfl⟩:=hx
       refine wpIn_region_any hm (bA0 (Ξ:=Ξ) (B:=B) (S:=S) hc hio hlow hd' han hps hA hAo hvk hrun hck.1 hck.2 hek ops.size (Array.replicate ops.size false) G a _ (by simp) ?_ ?_ ?_ ?_)
       ·refine bP2 bS0 (by simp)
       ·intro j o ho hL;simp[bRk]at hL
        split at hL<;>simp at hL
       ·rw[cN (L':=fun _=>false) fun i _=>by simp[bRk];split<;>simp]
        have: ∀(k:Nat),dO (fun k=>eY ((jJ A ⟨0,d,st.cnt 0 d⟩ l).getD k default) (rs.getD k cE)) (fun _=>false) (wL ⟨0,d,st.cnt 0 d⟩ z st) k=wL ⟨0,d,st.cnt 0 d⟩ z st:=by
         intro k;induction k with
         |zero=>rfl
         |succ k ih=>simp only[dO,bPs,if_false];exact ih
        have hf: ¬(Array.replicate ops.size false).getD A false=true:=by
         rw[bP6,bRk]
         split<;>simp
        rw[this,if_neg hf];exact hR'
       ·exact fun a' w' G' h1 h2=>hQ a' w' G' undef trivial h1.e ⟨h2.os,h2.tape,h2.output,h2.size,h2.block⟩
     |none=>
     simp only[hlt]at hx;rw[exec]at hx
     split at hx
     ·rename_i j hj;exact wpIn_region_any hm (aVj (Ξ:=Ξ) (B:=B) (S:=S) hc hio (aVm hL hF) (aKl hL hF) hlow hd' han hps (by have:=aKj _ hj;omega) hx (hR.below hb)
       fun a' w' G' x h1 h2 h3=>hQ a' w' G' x h1 h2 ⟨h3.os,h3.tape,h3.output,h3.size,h3.block⟩)
     ·split at hx
      case h_2=>cases hx
      rename_i s1 rs hrun
      split at hx
      case isFalse=>cases hx
      rename_i hok;simp only[bPo,bPt]at hx;exact drawOk s1 rs hrun hok hx.1.symm hx.2.symm
    |false=>
     simp only[hX,bPs,if_false,bQg]at hx;rw[exec]at hx
     split at hx
     case h_2=>cases hx
     rename_i s1 rs hrun
     split at hx
     case isFalse=>cases hx
     rename_i hok;simp only[bPo,bPt]at hx;exact drawOk s1 rs hrun hok hx.1.symm hx.2.symm
 case seq x y _ _=>
  simp only[cF,aZ.dstOk,bPp]at hd;simp only[cF,exec]at hx
  refine wpIn_seq ?_
  cases h1:exec L n (cF P I x) st with
  |none=>rw[h1]at hx;cases hx
  |some p=>
   obtain⟨e1,s1⟩:=p;rw[h1]at hx;have hnr1:Ξ.nm=true->(cF P I x).noRg=true/\ (cF P I y).noRg=true:=fun h=>by simpa[cF,aZ.noRg]using hnr h
   refine ih I N x st e1 s1 Ξ B S G a w _ m hd.1 (fun h=>(hnr1 h).1) hR h1 fun a1 w1 G1 x1 hx1 hR1 hb1=>?_
   cases e1 with
   |panic v=>simp only[bPo,bPt]at hx;obtain⟨rfl,rfl⟩:=hx;exact hQ a1 w1 G1 x1 hx1 hR1 hb1
   |normal=>exact ih I N y s1 e st' Ξ B S G1 a1 w1 _ m hd.2 (fun h=>(hnr1 h).2) (hR1.rel rfl) hx fun a2 w2 G2 x2 hx2 hR2 hb2=>hQ a2 w2 G2 x2 hx2 hR2 (hb1.trans hb2)
   |exit id=>simp only[bPo,bPt]at hx;obtain⟨rfl,rfl⟩:=hx;exact hQ a1 w1 G1 x1 trivial hR1 hb1
   |ret=>simp only[bPo,bPt]at hx;obtain⟨rfl,rfl⟩:=hx;exact hQ a1 w1 G1 x1 trivial hR1 hb1
 case cond z x y _ _=>
  simp only[cF]at hd hx;cases hz':aP z with
  |none=>rw[hz']at hx;exact(yK hx).elim
  |some z'=>
   rw[hz']at hx hd;simp only[aZ.dstOk,bPp]at hd;have hnr1:Ξ.nm=true->(cF P I x).noRg=true/\ (cF P I y).noRg=true:=fun h=>by simpa[cF,hz',aZ.noRg]using hnr h
   simp only[exec]at hx;have hv:=aU hR hz'
   split at hx
   ·rename_i hz;rw[hz]at hv;have:a.eval z= .bool true:=by generalize a.eval z=q at hv;cases hv;rfl
    exact wpIn_cond_true this (ih I N x st e st' Ξ B S G a w Q m hd.1 (fun h=>(hnr1 h).1) hR hx hQ)
   ·rename_i hz;rw[hz]at hv;have:a.eval z= .bool false:=by generalize a.eval z=q at hv;cases hv;rfl
    exact wpIn_cond_false this (ih I N y st e st' Ξ B S G a w Q m hd.2 (fun h=>(hnr1 h).2) hR hx hQ)
   ·cases hx
 case block id x _=>
  simp only[cF,aZ.dstOk]at hd;simp only[cF,exec]at hx
  refine wpIn_block ?_
  cases h1:exec L n (cF P I x) st with
  |none=>rw[h1]at hx;cases hx
  |some p=>
   obtain⟨e1,s1⟩:=p;rw[h1]at hx
   refine ih I N x st e1 s1 Ξ B S G a w _ m hd (fun h=>by simpa[cF,aZ.noRg]using hnr h) hR h1 fun a1 w1 G1 x1 hx1 hR1 hb1=>?_
   cases e1 with
   |panic v=>simp only[bPo,bPt]at hx;obtain⟨rfl,rfl⟩:=hx;exact hQ a1 w1 G1 x1 hx1 hR1 hb1
   |normal=>simp only[bPo,bPt]at hx;obtain⟨rfl,rfl⟩:=hx;exact hQ a1 w1 G1 x1 trivial hR1 hb1
   |exit id'=>
    simp only at hx
    simp only[Ex.toExit,Exit.inBlock]
    split at hx
    ·rename_i he;rw[if_pos he];simp only[bPo,bPt]at hx;obtain⟨rfl,rfl⟩:=hx;exact hQ a1 w1 G1 x1 trivial hR1 hb1
    ·rename_i he;rw[if_neg he];simp only[bPo,bPt]at hx;obtain⟨rfl,rfl⟩:=hx;exact hQ a1 w1 G1 x1 trivial hR1 hb1
   |ret=>simp only[bPo,bPt]at hx;obtain⟨rfl,rfl⟩:=hx;exact hQ a1 w1 G1 x1 trivial hR1 hb1
 case loop x _=>
  simp only[cF,aZ.dstOk]at hd;simp only[cF]at hx;have key: ∀k s1 G1 a1 w1,k<=n+1->Rel P Ξ B S G1 s1 N a1 w1->exec L k (.loop (cF P I x)) s1=some (e,st')->Below B w w1->Code.roundsIn (Fx Ξ.ro) m P x Q k a1 w1:=by
   intro k
   induction k with
   |zero=>intro s1 G1 a1 w1 _ _ hx1 _;simp[exec]at hx1
   |succ k ihk=>
    intro s1 G1 a1 w1 hk hR1 hx1 hb1;simp only[exec]at hx1;rw[roundsIn_succ];cases h1:exec L k (cF P I x) s1 with
    |none=>rw[h1]at hx1;cases hx1
    |some p=>
     obtain⟨e1,s2⟩:=p;rw[h1]at hx1
     refine ihs k (by omega) I N x s1 e1 s2 Ξ B S G1 a1 w1 _ m hd (fun h=>by simpa[cF,aZ.noRg]using hnr h) hR1 h1 fun a2 w2 G2 x2 hx2 hR2 hb2=>?_
     cases e1 with
     |panic v=>simp only[bPo,bPt]at hx1;obtain⟨rfl,rfl⟩:=hx1;exact hQ a2 w2 G2 x2 hx2 hR2 (hb1.trans hb2)
     |normal=>exact ihk s2 G2 a2 w2 (by omega) (hR2.rel rfl) hx1 (hb1.trans hb2)
     |exit id=>simp only[bPo,bPt]at hx1;obtain⟨rfl,rfl⟩:=hx1;exact hQ a2 w2 G2 x2 trivial hR2 (hb1.trans hb2)
     |ret=>simp only[bPo,bPt]at hx1;obtain⟨rfl,rfl⟩:=hx1;exact hQ a2 w2 G2 x2 trivial hR2 (hb1.trans hb2)
  exact wpIn_loop_rounds (n+1) (key (n+1) st G a w (bPq _) hR hx (Below.refl _ _))
 case exit id=>
  simp only[cF,exec,bPo,bPt]at hx;obtain⟨rfl,rfl⟩:=hx;exact wpIn_exit (hQ a w G undef trivial hR.e (Below.refl _ _))
 case ret=>
  simp only[cF,exec,bPo,bPt]at hx;obtain⟨rfl,rfl⟩:=hx;exact wpIn_ret (hQ a w G undef trivial hR.e (Below.refl _ _))
 case rangeFunc g ps ca cb _ _=>
  simp only[cF]at hd hx;cases hg:aP g with
  |none=>rw[hg]at hx;exact(yK hx).elim
  |some g'=>
   rw[hg]at hx hd;simp only[aZ.dstOk,bPp]at hd;simp only[exec]at hx;have hnm:Ξ.nm=false:=by
    cases h:Ξ.nm with
    |false=>rfl
    |true=>have:=hnr h;simp[cF,hg,aZ.noRg]at this
   exact aVn hL hF hg hd.1.1 hd.1.2 hd.2 hnm hR hx hQ
 case scope x ihx=>
  refine aSa (ihx st e st' Ξ B S G a w _ m hd hnr hR hx fun a1 w1 G1 x1 hx1 hR1 hb1=>?_)
  have:=hQ a1 w1 G1 x1 hx1 hR1 hb1;cases e<;>exact this
 all_goals (simp only[cF]at hx;exact(yK hx).elim)
def Ex.mode (x:Value):Ex->FrameMode
 | .panic _=> .panicking (zV x)
 |_=> .returning
theorem Ex.mode_run {x:Value}:e.mode x≠ .run:=by cases e<;>simp[Ex.mode]
variable {lc:aZ}{ops:Array Oper}{ts:List Nat}
theorem aSb {k:Call}{y:Code}(h:aUx P I ts ops k y=some lc):
  ∃F f args l,k.callee= .value F/\ aP F=some f/\ jV k.args.toList=some args/\ cT (fL P I ops) ops.toList.dropLast=some l/\ lc= .dfr ts l f args (cF P I y):=by
 simp only[aUx]at h
 split at h
 case h_2=>cases h
 rename_i F hF
 split at h
 case h_2=>cases h
 rename_i f args l h1 h2 h3;simp only[bPo]at h;exact⟨F,f,args,l,hF,h1,h2,h3,h.symm⟩
theorem bA2 (h:aCq P I ts c=some lc):lc.isRcv=false:=by
 cases c<;>simp only[aCq,reduceCtorEq]at h
 split at h
 ·obtain⟨_,_,_,_,_,_,_,_,rfl⟩:=aSb h;rfl
 ·split at h
  ·simp only[bPo]at h;subst h;rfl
  ·cases h
variable {l:List aN}
theorem bDv {dst:Option Nat}{b:aZ}(h:aE6 P I ts c=some (.rcv dst l b)):
  ∃id ops c' o jR,c= .seq (.region id ops false) c'/\ ops.toList=o::jR/\ aG3 o=true/\ jR.all aPe=true/\ cT (fL P I ops) jR=some l/\ dst=o.dst/\ b=cF P I c'/\ (cF P I c').noRg=true:=by
 simp only[aE6]at h
 split at h
 ·rename_i x hx;simp only[bPo]at h;subst h;unfold aUy at hx
  split at hx
  case h_2=>cases hx
  rename_i id ops c'
  split at hx
  case h_2=>cases hx
  rename_i o jR ho
  split at hx
  case isFalse=>cases hx
  rename_i hc;simp only[bPp]at hc;obtain⟨l',hl,he⟩:=bP5.1 hx;simp only[aZ.rcv.injEq]at he;obtain⟨rfl,rfl,rfl⟩:=he;exact⟨_,ops,c',o,jR,rfl,ho,hc.1.1,hc.1.2,hl,rfl,rfl,hc.2⟩
 ·split at h
  ·rename_i x hx;simp only[bPo]at h;subst h;have:=bA2 hx;cases this
  ·split at h
   ·cases h
   ·rename_i hn;simp only[bPo]at h;rw[h]at hn;simp[aZ.isRcv]at hn
variable {call:bC}{io:Inl}
section
variable {ro:Option Nat}
theorem bDw (hcall:lZ P call)(hio:yI P io)(hl: ∀i (h:i<l.length),∃h':i<ops.size,fL P I ops ops[i]=some l[i])(hd:l.all (fun o=>o.dst.all (· <N))=true){jR:List Nat}:
  ∀(k i:Nat) (st st':St) (G:Gh) (a:Act) (w:World),i+k=l.length->Rel P Ξ B S G st N a w->gR n call io 0 (l.drop i) st=some st'->
   (∀a' w' G',Rel P Ξ B S G' st' N a' w'->Below B w w'->wpOpsIn (Fx ro) m P ops Q jR a' w')->wpOpsIn (Fx ro) m P ops Q (List.range' i k++jR) a w:=by
 intro k
 induction k with
 |zero=>
  intro i st st' G a w hik hR hrun hQ;have:l.drop i=[]:=bSy.2 (by omega)
  rw[this]at hrun;simp only[gR,bPo]at hrun;subst hrun;exact hQ a w G hR (Below.refl _ _)
 |succ k ih=>
  intro i st st' G a w hik hR hrun hQ;have hil:i<l.length:=by omega
  obtain⟨hi,hlow⟩:=hl i hil;rw[bQu hil]at hrun;simp only[gR]at hrun
  split at hrun
  case h_2=>cases hrun
  rename_i st1 r hs;rw[bSr,bR5,wpOpsIn_cons];unfold wpOpIn;rw[bQc hi];exact pM hcall hio hR hlow (bPv.1 hd _ (bPz hil)) hs fun a' w' G' h1 h2=>
   ih (i+1) st1 st' G' a' w' (by omega) h1 hrun fun a'' w'' G'' h3 h4=>hQ a'' w'' G'' h3 (h2.trans h4)
theorem aSc (hl: ∀i (h:i<l.length),∃h':i+1<ops.size,aPe ops[i+1]=true/\ fL P I ops ops[i+1]=some l[i])(hd:l.all (fun o=>o.dst.all (· <N))=true){Q:Exit->Act->List Frame->World->Prop}:
  ∀(k i:Nat) (st st':St) (G:Gh) (a:Act),i+k=l.length->Rel P Ξ B S G st N a w->gR n call io 0 (l.drop i) st=some st'->
   (∀a' G',Rel P Ξ B S G' st' N a' w->Q .normal a' cs w)->wpOpsSIn Fence.wide m P ops Q (List.range' (i+1) k) a cs w:=by
 intro k
 induction k with
 |zero=>
  intro i st st' G a hik hR hrun hQ;have:l.drop i=[]:=bSy.2 (by omega)
  rw[this]at hrun;simp only[gR,bPo]at hrun;subst hrun;exact hQ a G hR
 |succ k ih=>
  intro i st st' G a hik hR hrun hQ;have hil:i<l.length:=by omega
  obtain⟨hi,hmv,hlow⟩:=hl i hil;rw[bQu hil]at hrun;simp only[gR]at hrun
  split at hrun
  case h_2=>cases hrun
  rename_i st1 r hs;have hdi:=bPv.1 hd _ (bPz hil);rw[bSr];simp only[wpOpsSIn,bQc hi]
  refine⟨fun _ _=>trivial,?_⟩
  simp only[fL,bQb,bP4,bQd,bPo]at hlow;obtain⟨lop,hop,g,hg,he⟩:=hlow;have hmv': ∃x,(ops[i+1].op= .assign x \/ops[i+1].op= .move x)/\ ops[i+1].guard=none:=by
   unfold aPe at hmv
   split at hmv
   ·rename_i h1 h2;exact⟨_,.inl h1,h2⟩
   ·rename_i h1 h2;exact⟨_,.inr h1,h2⟩
   ·cases hmv
  obtain⟨x,hx,hgd⟩:=hmv';have hw:Region.wanted ops[i+1] (yielded ops a.tmps)=true:=by simp[Region.wanted,hgd]
  have hrun1:(execOp a.eval ops[i+1]).run P w= .ok (.value (a.eval x)) w:=by
   rcases hx with hx|hx<;>simp[execOp,hx]
  obtain⟨y,hy,hlop⟩: ∃y,aP x=some y/\ lop= .mv y:=by
   rcases hx with hx|hx<;>rw[hx]at hop<;>(obtain⟨y,h1,h2⟩:=bP5.1 hop;exact⟨y,h1,h2.symm⟩)
  have hg':g=none:=by rw[hgd]at hg;simpa[aBc]using hg.symm
  rw[<-he,hlop,hg']at hs;rw[<-he]at hdi;simp only[step,wanted,eval,bQq,bPs,if_false,W.applyAll,bR7,bPo,bPt]at hs;obtain⟨rfl,rfl⟩:=hs;simp only[hw,if_true,hrun1];exact ih (i+1) _ st' G _ (by omega) (hR.putO' ops[i+1].dst (aU hR hy) hdi) hrun hQ
end
theorem aSd {L:bH}(hL:qK P L)(hE:xO P L n)(hcall:lZ P (bL L 8 (exec L n)))(hio:yI P (fE L (exec L n))){g:Nat}{A Z:List Val}
  (h:iK L (exec L n) (.fn g A Z) args e st=some st'):st'.fr=st.fr∧(∃fn,P.funcs[g]?=some fn∧(fn.name== "runtime.NumGoroutine")=false∧fn.body.isNone=false)∧
  ∀(Ξ:Env) (B:Nat) (S:Nat->Nat->Prop) (G:Gh) (N:Nat) (a:Act) (w:World) (vals:Array Value) (x:Value) (m:Nat),e.val x->Rel P Ξ B S G st N a w->vals.size=(A++args++Z).length->
   (∀i,i<(A++args++Z).length->VR (aX B S G w.heap.size) G w ((A++args++Z).getD i .dead) (vals.getD i undef))->
   CallsDIn Fence.wide m P g vals (e.mode x) w fun ed u' w'=> ∃G' y,ed= .returned y/\ settle u'= .returning/\ Rel P Ξ B S G' st' N a w'/\ Below B w w':=by
 simp only[iK]at h
 split at h
 case h_2=>cases h
 rename_i lf hlf
 split at h
 case h_2=>cases h
 rename_i dst l cb v hbody hrv
 split at h
 case isFalse=>cases h
 rename_i hc;obtain⟨hlen,hres0⟩:=hc
 split at h
 case h_2=>cases h
 rename_i st1 hmoves
 split at h
 case h_2=>cases h
 rename_i e' st2 hx
 split at h
 case isFalse=>cases h
 rename_i hends;simp only[bPo]at h;subst h;obtain⟨fn,I,keep,amb,hfn,hlow⟩:=hL g lf hlf;obtain⟨c,hb,hlb,hdst,hnp,hname,hres⟩:=yJ hlow;rw[hbody]at hlb hdst;obtain⟨id,ops,c',o,jR,rfl,hops,hrec,hmv,hl,rfl,rfl,hnr⟩:=bDv hlb
 refine⟨rfl,⟨fn,hfn,hname,by rw[hb];rfl⟩,fun Ξ B S G N a w vals x m hxv hR hvl hv=>?_⟩
 simp only[aZ.dstOk,bPp]at hdst;obtain⟨⟨hd1,hd2⟩,hd3⟩:=hdst;obtain⟨Ds0,q1,q2,q3⟩:=hR.marks;have hR1:=aHc (st0:=st) (fn:=fn) (nm:=true) hR q3 rfl rfl hvl (by omega) hv
 have hsz:ops.size=jR.length+1:=by
  have:=congrArg List.length hops
  simpa using this
 have h0:ops[0]?=some o:=by
  have:ops.toList[0]?=some o:=by rw[hops];rfl
  simpa using this
 have hro: ∃cl,o.op= .call cl/\ cl.callee= .builtin .recover/\ o.guard=none:=by
  unfold aG3 at hrec
  split at hrec
  ·rename_i cl h1 h2
   split at hrec
   ·rename_i h3;exact⟨cl,h1,h3,h2⟩
   ·cases hrec
  ·cases hrec
 obtain⟨cl,ho1,ho2,ho3⟩:=hro;obtain⟨m1,m2⟩:=eZ hl
 refine callsDIn_of_wpSIn hfn hb trivial fun c₀ cs hmode=>?_
 refine wpSIn_seq (wpSIn_region ?_)
 rw[hsz,bSw,bSr];simp only[wpOpsSIn,h0]
 refine⟨fun _ _=>trivial,?_⟩
 have hw:Region.wanted o (yielded ops (aR8 fn vals).tmps)=true:=by simp[Region.wanted,ho3]
 have hrunr: ∀(ρ:Operand->Value) (w:World),(execOp ρ o).run P w= .ok .recover w:=by
  intro ρ w;simp[execOp,ho1,resolve,ho2,invoke,builtin]
 unfold aR8 at hw;simp only[hw,if_true,hrunr];have behindR: ∀(y:Value) (u':FrameMode),settle u'= .returning->FV v y->
   wpOpsSIn Fence.wide m P ops (Exit.thenS (Code.wpSIn Fence.wide m P c' (bodyPostS P fn c₀ cs fun ed u' w'=> ∃G' y,ed= .returned y/\ settle u'= .returning/\ Rel P Ξ B S G' {fr:=st.fr,en:=st2.en,cnt:=st2.cnt} N a w'/\ Below B w w'))
    (bodyPostS P fn c₀ cs fun ed u' w'=> ∃G' y,ed= .returned y/\ settle u'= .returning/\ Rel P Ξ B S G' {fr:=st.fr,en:=st2.en,cnt:=st2.cnt} N a w'/\ Below B w w')) (List.range' (0+1) jR.length) ((aR8 fn vals).put o.dst y) ({c₀ with mode:=u'}::cs) w:=by
  intro y u' hu' hvy;have hR2:=hR1.putO' o.dst (v:=v) (x:=y) (hvy _ _ _) hd1
  refine aSc (N:=fn.ntmps) (st':=st1) (G:=G) (n:=8) (call:=bL L 8 (exec L n)) (io:=fE L (exec L n)) (l:=l) (I:=I) ?_ hd2 jR.length 0 _ _ (by rw[m1];omega) hR2 (by simpa using hmoves) fun a4 G4 hR4=>?_
  ·intro i hi;have hi':i<jR.length:=by omega
   have hi2:i+1<ops.size:=by omega
   have he:ops[i+1]=jR[i]:=by
    have:ops.toList[i+1]?=jR[i]?:=by rw[hops];rfl
    rw[bQz hi',Array.getElem?_toList,bQc hi2]at this;exact Option.some.inj this
   refine⟨hi2,?_,?_⟩
   ·rw[he];exact bPv.1 hmv _ (bPz hi')
   ·rw[he];exact m2 i hi' hi
  ·refine wpSIn_of_wpIn rfl ?_
   refine hE I fn.ntmps c' st1 e' st2 _ B S G4 a4 w _ m hd3 (fun _=>hnr) hR4 hx fun a5 w5 G5 x5 _ hR5 hb5=>?_
   have fin:e'.calm=true->a5.defers=[]/\ ∃u'',({c₀ with mode:=u'}::cs:List Frame)={c₀ with mode:=u''}::cs/\ ∃v,(results fn a5.tmps).run P w5= .ok v w5/\
     ∃G' y,Ending.returned v= .returned y/\ settle u''= .returning/\ Rel P Ξ B S G' {fr:=st.fr,en:=st2.en,cnt:=st2.cnt} N a w5/\ Below B w w5:=by
    intro hcalm;have hR6:=hR5.rel hcalm;obtain⟨Ds,r1,r2,r3⟩:=hR6.marks;have hDs:=r2.2 rfl;subst hDs;have hlr:lf.res=[]:=by simpa using hres0
    rw[hlr]at hres;obtain⟨y5,hy5,_⟩:=xP hR6 hres (vs:=[]) rfl;exact⟨by simpa using r1,u',rfl,y5,hy5,G5,y5,rfl,hu',aHd (ste:=st2) hR.tmps q1 q2 (fun D hD=>⟨(q3 D hD).1,(q3 D hD).2.1⟩) hR6,hb5⟩
   cases e' with
   |normal=>exact fin rfl
   |ret=>exact fin rfl
   |exit id=>cases hends
   |panic v=>cases hends
 cases e with
 |panic vp=>
  simp only[Ex.mode]at hmode;simp only[Ex.rcvd,bPo]at hrv;subst hrv;have hrc:recoverD (c₀::cs)=some (x,{c₀ with mode:= .panicking [{v:=x,recovered:=true}]}::cs):=by simp[recoverD,hmode,zV]
  simp only[hrc];exact behindR x _ (by simp[settle]) hxv
 |exit id=>cases hrv
 |normal=>
  simp only[Ex.mode]at hmode;simp only[Ex.rcvd,bPo]at hrv;subst hrv;have hrc:recoverD (c₀::cs)=none:=by simp[recoverD,hmode]
  simp only[hrc];have:=behindR .nilIface .returning rfl (fun _ _ _=> .nili)
  have ec:({c₀ with mode:=FrameMode.returning}:Frame)=c₀:=by rw[<-hmode]
  rw[ec]at this;exact this
 |ret=>
  simp only[Ex.mode]at hmode;simp only[Ex.rcvd,bPo]at hrv;subst hrv;have hrc:recoverD (c₀::cs)=none:=by simp[recoverD,hmode]
  simp only[hrc];have:=behindR .nilIface .returning rfl (fun _ _ _=> .nili)
  have ec:({c₀ with mode:=FrameMode.returning}:Frame)=c₀:=by rw[<-hmode]
  rw[ec]at this;exact this
theorem aN2 {α β:Type}{f g:α->Sem β}: ∀{l:List α},(∀x∈l,f x=g x)->l.mapM f=l.mapM g
 |[],_=>by simp
 |x::l,h=>by
  simp only[List.mapM_cons];rw[h x (by simp),aN2 fun y hy=>h y (by simp[hy])]
variable {fn:Func}
theorem aPx {tm tm':Array Value}(h: ∀t∈aE5 fn.results.toList,tm.getD t undef=tm'.getD t undef):results fn tm=results fn tm':=by
 have:(fn.results.mapM fun(rv:ResultVar)=>(match rv with
   | .tmp t=>(pure (tm.getD t undef):Sem Value)
   | .cell c t=>do loadVar t (<-asAddr (tm.getD c undef))))=(fn.results.mapM fun(rv:ResultVar)=>(match rv with
   | .tmp t=>(pure (tm'.getD t undef):Sem Value)
   | .cell c t=>do loadVar t (<-asAddr (tm'.getD c undef)))):=by
  rw[bTa,bTa]
  congr 1
  refine aN2 fun rv hrv=>?_
  have ht:=h (match rv with| .tmp t=>t| .cell c _=>c) (by simp only[aE5,bQk];exact⟨rv,hrv,by cases rv<;>rfl⟩)
  cases rv with
  |tmp t=>simp only at ht⊢;rw[ht]
  |cell c t=>simp only at ht⊢;rw[ht]
 simp only[results];exact congrArg (fun z=>z>>=_) this
theorem bDx {L:bH}(hL:qK P L){R:Ending->World->Prop}{w0:World}(hro:Ξ.ro=none)(ht:Ξ.tail=[])(hnm:Ξ.nm=false)
  (k: ∀a1 w1 G1 x,e.val x->a1.defers=[]->Rel P Ξ B S G1 st' fn.ntmps a1 w1->Below B w0 w1->e.fin P fn a1 w1 R x):
  ∀(n:Nat),(∀m,m<n->xO P L m/\ lZ P (bL L 8 (exec L m))/\ yI P (fE L (exec L m)))-> ∀(y:Code) (ly:aZ) (st:St) (G:Gh) (a:Act) (w:World),aCq P I (aE5 fn.results.toList) y=some ly->ly.dstOk fn.ntmps=true->
   exec L n ly st=some (e,st')->Rel P Ξ B S G st fn.ntmps a w->Below B w0 w->y.wpIn (Fx none) 0 P (bodyPostM Fence.wide 0 P fn R) a w:=by
 intro n
 induction n with
 |zero=>intro _ y ly st G a w _ _ hx;simp[exec]at hx
 |succ n ih=>
  intro hall y ly st G a w hly hdst hx hR hB;obtain⟨hE,hcall,hio⟩:=hall n (by omega)
  have hplain: ∀{ro:Option Nat},ro=none->Fx ro=Fx none:=fun h=>by rw[h]
  cases y<;>simp only[aCq,reduceCtorEq]at hly
  rename_i x y
  split at hly
  ·-- the deferred call
   rename_i ops kc hdf;obtain⟨F,f,args,l,hcf,hf,hargs,hl,rfl⟩:=aSb hly;unfold aZ9 at hdf
   split at hdf
   case h_2=>cases hdf
   rename_i id ops'
   split at hdf
   case h_2=>cases hdf
   rename_i o hback
   split at hdf
   case h_2=>cases hdf
   rename_i kc' hop hgd hdo;simp only[bPo,bPt]at hdf;obtain⟨rfl,rfl⟩:=hdf;simp only[aZ.dstOk,bPp]at hdst;obtain⟨hd1,hd2⟩:=hdst;rw[exec]at hx
   split at hx
   case h_2=>cases hx
   rename_i st2 hpre
   split at hx
   case h_2=>cases hx
   rename_i eb st3 hbx
   split at hx
   ·cases hx
   rename_i hts;obtain⟨st4,hdfr,he⟩:=bP5.1 hx;simp only[bPt]at he;obtain⟨rfl,rfl⟩:=he;obtain⟨m1,m2⟩:=eZ hl;have hne:ops'.size≠0:=by
    intro h0;have:ops'= #[]:=Array.eq_empty_of_size_eq_zero h0;rw[this]at hback;simp at hback
   have hll:l.length=ops'.size-1:=by rw[m1];simp
   have hlast:ops'[l.length]?=some o:=by rw[hll];rw[Array.back?_eq_getElem?]at hback;exact hback
   refine wpIn_seq (wpIn_region ?_)
   rw[show ops'.size=l.length+1 by omega,List.range_succ,bSw]
   refine bDw (N:=fn.ntmps) (Ξ:=Ξ) (B:=B) (S:=S) hcall hio (l:=l) (I:=I) (fun i hi=>?_) hd1 l.length 0 st st2 G a w (by omega) hR (by simpa using hpre) fun a2 w2 G2 hR2 hb2=>?_
   ·have hi':i<ops'.size:=by omega
    refine⟨hi',?_⟩
    have:=m2 i (by simp;omega) hi
    simpa[List.getElem_dropLast]using this
   have hfv:=aU hR2 hf;obtain⟨la,va⟩:=pL hR2 hargs;cases hfn0:St.get st2.fr f with
   |fn g A Z=>?_
   |_=>rw[hfn0]at hdfr;simp[iK]at hdfr
   rw[hfn0]at hdfr hfv;obtain⟨hfr4,⟨gn,hgn,hgname,hgbody⟩,hdef⟩:=aSd hL hE hcall hio hdfr;generalize hgF:a2.eval F=uF at hfv;cases hfv with
   |fn _ _ _ p q hp hq hvp hvq=>
   let dd:Deferred:={target:= .fn (.func g) q,args:=p++kc'.args.map a2.eval};have hrun:(execOp a2.eval o).run P w2= .ok (.defer dd) w2:=by
    simp[execOp,hop,resolve,hcf,hgF,Deferred.ofValue,dd]
   have hinv: ∀W:World,(invoke (.fn (.func g) q) (p++kc'.args.map a2.eval)).run P W= .ok (.enter g (p++kc'.args.map a2.eval++q)) W:=by
    intro W;have hnm': ¬gn.name= "runtime.NumGoroutine" :=by simpa using hgname
    have hbody': ¬gn.body=none:=by intro h;rw[h]at hgbody;cases hgbody
    simp[invoke,callFunc,hgn,hnm',hbody']
   obtain⟨Ds,r1,r2,r3⟩:=hR2.marks;rw[ht,bQr]at r1;rw[wpOpsIn_cons];unfold wpOpIn;simp only[hlast];have hw:Region.wanted o (yielded ops' a2.tmps)=true:=by simp[Region.wanted,hgd]
   simp only[hw,if_true]
   refine⟨fun _ _=>trivial,?_⟩
   rw[show(Fx none).round=none from rfl,Oper.semAt_none,hrun,Oper.uponIn_defer,hdo]
   show Code.wpIn (Fx none) 0 P y (bodyPostM Fence.wide 0 P fn R) {a2 with defers:=dd::a2.defers} w2;let ΞB:Env:={prs:=fun u z=>Ξ.prs u z \/ ∃X x,aP X=some x/\ u=St.get st2.fr x/\ z=a2.eval X,ro:=Ξ.ro,rnd:=Ξ.rnd,defs:=fun D=>Ξ.defs D \/D∈Ds,tail:=dd::Ds.map zL,virt:=Ξ.virt}
   have hRB:Rel P ΞB B S G2 st2 fn.ntmps {a2 with defers:=dd::a2.defers} w2:=
    ⟨hR2.size,hR2.tmps,hR2.frame,⟨[],by simp[ΞB,r1],⟨List.nodup_nil,fun _=>rfl⟩,fun D hD=>by simp at hD⟩,hR2.ents,hR2.freshEn,hR2.freshG,hR2.own,fun u z hu=>by
     rcases hu with(hu|⟨X,x,h1,rfl,rfl⟩)|hu
     ·exact hR2.extra u z (.inl hu)
     ·exact aU hR2 h1
     ·exact hR2.extra u z (.inr hu),fun l hl=>hR2.round l hl,fun D hD=>hD.elim (hR2.defs D) fun h=>(r3 D h).2.2,hR2.virt⟩
   have hfx:Fx ΞB.ro=Fx none:=by show Fx Ξ.ro=Fx none;rw[hro]
   have hBw2:Below B w0 w2:=hB.trans hb2;rw[<-hfx]
   refine hE I fn.ntmps y st2 eb st3 ΞB B S G2 _ w2 _ 0 hd2 (fun h=>nomatch h) hRB hbx fun a3 w3 G3 x3 hx3 hR3 hb3=>?_
   obtain⟨tm,hR3',htm,htu⟩:=hR3;obtain⟨Ds3,s1,s2,s3,s4,_,hR4⟩:=hR3'.shut
   replace s1:a3.defers=Ds3.map zL++(dd::Ds.map zL):=s1
   have hres:results fn tm=results fn a3.tmps:=aPx fun t htt=>htu t (by
    cases hu:(st3.fr t).isUndef with
    |false=>rfl
    |true=>exact absurd (bSn.2 ⟨t,htt,hu⟩) (by simpa using hts))
   have hlv:LeavesInM Fence.wide 0 P fn a3.tmps R (Ds3.map zL++(dd::Ds.map zL)) (eb.mode x3) w3:=by
    refine oF Ex.mode_run Ds3 w3 s2 s3 ⟨Ex.mode_run,.inr ⟨fun h=>by simp[Fence.wide]at h,.func g,q,g,_,rfl,hinv _,fun _ _=>trivial,?_⟩⟩
    have hvals: ∀i,i<(A++args.map (St.get st2.fr)++Z).length->VR (aX B S G3 (mB w3 Ds3).heap.size) G3 (mB w3 Ds3) ((A++args.map (St.get st2.fr)++Z).getD i .dead) ((p++kc'.args.map a2.eval++q).getD i undef):=by
     have hfv4:=hR4.extra _ _ (.inl (.inr ⟨F,f,hf,rfl,rfl⟩));rw[hfn0,hgF]at hfv4;cases hfv4 with
     |fn _ _ _ _ _ hp4 hq4 hvp4 hvq4=>
     intro i hi;simp only[bPu,bP6,bSh,bSk,bP9,bSi,Array.size_map,bPr]at hi⊢;have e1:p.size=A.length:=hp;have e2:kc'.args.size=args.length:=by simp[la]
     rw[e1,e2];split
     ·split
      ·rename_i h;have:=hvp4 i h;simpa[bPu,bP6]using this
      ·have hi':i-A.length<args.length:=by omega
       have hi2:i-A.length<kc'.args.size:=by omega
       obtain⟨m3,m4⟩:=eZ hargs;have hlo:=m4 (i-A.length) (by simpa using hi2) hi'
       have:=hR4.extra _ _ (.inl (.inr ⟨_,_,hlo,rfl,rfl⟩))
       simpa[bPu,bP6,hi',hi2]using this
     ·have:=hvq4 (i-(A.length+args.length)) (by omega);simpa[bPu,bP6]using this
    refine CallsDIn.mono (hdef ΞB B S G3 fn.ntmps _ (mB w3 Ds3) _ x3 (0-1) hx3 hR4 (by simp[hp,hq,la]) hvals) ?_
    rintro ed u' w5 ⟨G5,y5,rfl,hset,hR5,hb5⟩
    simp only[hset];have hR6:Rel P Ξ B S G5 st4 fn.ntmps {tmps:=tm,defers:=Ds.map zL} w5:=
     ⟨hR5.size,hR5.tmps,hR5.frame,⟨Ds,by simp[ht],r2,fun D hD=>⟨(r3 D hD).1,(r3 D hD).2.1,hR5.defs D (.inr hD)⟩⟩,hR5.ents,hR5.freshEn,hR5.freshG,hR5.own,fun u z hu=>hR5.extra u z (hu.imp_left .inl),fun l hl=>hR5.round l hl,fun D hD=>hR5.defs D (.inl hD),hR5.virt⟩
    obtain⟨Ds6,v1,v2,v3,v4,_,hR7⟩:=hR6.shut
    replace v1:Ds.map zL=Ds6.map zL++Ξ.tail:=v1
    have hfin:=k _ _ _ undef trivial ht hR7 ((((hBw2.trans hb3).trans (zX Ds3 w3 s4)).trans hb5).trans (zX Ds6 w5 v4));obtain⟨yy,hyy,hRy⟩:=hfin;rw[v1,ht]
    refine oF (by simp) Ds6 w5 v2 v3 ?_
    exact⟨yy,by rw[<-hres];exact hyy,hRy⟩
   rw[<-s1]at hlv;cases eb with
   |normal=>exact hlv
   |ret=>exact hlv
   |panic v=>exact hlv
   |exit id=>simp[iK,Ex.rcvd]at hdfr;split at hdfr<;>(try split at hdfr)<;>simp at hdfr
  ·split at hly
   case h_2=>cases hly
   rename_i ly' hly';simp only[bPo]at hly;subst hly;simp only[aZ.dstOk,bPp]at hdst;rw[exec]at hx
   refine wpIn_seq ?_
   cases h1:exec L n (cF P I x) st with
   |none=>rw[h1]at hx;cases hx
   |some pr=>
    obtain⟨e1,s1⟩:=pr;rw[h1]at hx;have hfx:Fx Ξ.ro=Fx none:=by rw[hro]
    rw[<-hfx]
    refine hE I fn.ntmps x st e1 s1 Ξ B S G a w _ 0 hdst.1 (fun h=>by rw[hnm]at h;cases h) hR h1 fun a1 w1 G1 x1 hx1 hR1 hb1=>?_
    cases e1 with
    |normal=>
     rw[hfx];exact ih (fun m hm=>hall m (by omega)) y ly' s1 G1 a1 w1 hly' hdst.2 hx (hR1.rel rfl) (hB.trans hb1)
    |exit id=>simp only[bPo,bPt]at hx;obtain⟨rfl,rfl⟩:=hx;exact aCz (m:=0) ht hx1 hR1 (hB.trans hb1) k
    |ret=>simp only[bPo,bPt]at hx;obtain⟨rfl,rfl⟩:=hx;exact aCz (m:=0) ht hx1 hR1 (hB.trans hb1) k
    |panic v=>simp only[bPo,bPt]at hx;obtain⟨rfl,rfl⟩:=hx;exact aCz (m:=0) ht hx1 hR1 (hB.trans hb1) k
theorem bI9 {L:bH}(hL:qK P L)(hE:xO P L n)(hall: ∀m,m<n->xO P L m/\ lZ P (bL L 8 (exec L m))/\ yI P (fE L (exec L m))):aHa P L n:=by
 intro f fn lf I keep amb e st0 st' Ξ B S G vals w R hfn hlow hx hro ht hnm hR0 k;obtain⟨c,hbody,hlb,hdst,hnp,hname,hres⟩:=yJ hlow;have hfx:Fx Ξ.ro=Fx none:=by rw[hro]
 refine callsIn_wide.1 (callsIn_of_wp_marks (F:=Fence.wide) (n:=0) hfn hbody trivial ?_)
 simp only[aE6]at hlb
 split at hlb
 ·rename_i lc hrc;simp only[bPo]at hlb;subst hlb
  exfalso
  unfold aUy at hrc
  split at hrc
  case h_2=>cases hrc
  split at hrc
  case h_2=>cases hrc
  split at hrc
  case isFalse=>cases hrc
  obtain⟨l',_,he⟩:=bP5.1 hrc;rw[<-he]at hx;cases n<;>simp[exec]at hx
 ·split at hlb
  ·rename_i lc hlt;simp only[bPo]at hlb;subst hlb;exact bDx hL hro ht hnm k n hall c _ st0 G _ w hlt hdst hx hR0 (Below.refl _ _)
  ·split at hlb
   ·cases hlb
   simp only[bPo]at hlb;rw[<-hlb]at hx hdst;have:=hE I fn.ntmps c st0 e st' Ξ B S G _ w (bodyPostM Fence.wide 0 P fn R) 0 hdst (fun h=>by rw[hnm]at h;cases h) hR0 hx fun a1 w1 G1 x hxv hR1 hb=>aCz ht hxv hR1 hb k
   rw[hfx]at this;exact this
theorem aHe {L:bH}(hL:qK P L){k:Nat}(ih:aHa P L n):lZ P (bL L k (exec L n)):=by
 intro f args r h;simp only[bL]at h
 split at h
 ·cases h
 rename_i lf hlf
 split at h
 case isFalse=>cases h
 rename_i hlen
 split at h
 ·rename_i ha;obtain⟨e1,c1⟩:=aR9 hL ih hlf hlen ha h;exact⟨e1,fun S w vals hS hgl hvl hv=>c1 _ _ S w vals hS hgl hvl hv⟩
 ·exact aHb hL ih hlf hlen h
theorem aYf (hm:P.follows .mixedOrders=true){L:bH}(hL:qK P L): ∀n,xO P L n/\ aHa P L n:=by
 intro n
 induction n using Nat.strongRecOn with
 |ind n ih=>
  have hE:xO P L n:=by
   match n,ih with
   |0,_=>intro I N c st e st' Ξ B S G a w Q m _ _ _ hx;simp[exec]at hx
   |n+1,ih=>exact aYe hm hL (aHe hL (ih n (by omega)).2) (ih n (by omega)).2 fun m hm'=>(ih m (by omega)).1
  exact⟨hE,bI9 hL hE fun m hm'=>⟨(ih m hm').1,aHe hL (ih m hm').2,bA1 hL (ih m hm').2 (ih m hm').1⟩⟩
theorem aSe (hm:P.follows .mixedOrders=true){L:bH}(hL:qK P L)(n:Nat):lZ P (lX L n):=aHe hL (aYf hm hL n).2
end Go.Abs
namespace Go.Abs
variable [Inhabited mS]
@[reducible] def o (d:Nat)(op:LOp):aN:=⟨some d,op,none⟩
@[reducible] def og (d t:Nat)(b:Bool)(op:LOp):aN:=⟨some d,op,some (t,b)⟩
@[reducible] def on (op:LOp):aN:=⟨none,op,none⟩
@[reducible] def ong (t:Nat)(b:Bool)(op:LOp):aN:=⟨none,op,some (t,b)⟩
@[reducible] def cI (n:Int):Opd:= .c (.int .i64 n)
@[reducible] def cB (b:Bool):Opd:= .c (.bool b)
@[reducible] def mT (d x:Nat):aN:=⟨some d,.mv (.t x),none⟩
@[reducible] def mC (d:Nat)(v:Val):aN:=⟨some d,.mv (.c v),none⟩
@[reducible] def fA (d k x:Nat):aN:=⟨some d,.fa k (.t x),none⟩
@[reducible] def l1 (d x:Nat):aN:=⟨some d,.load false 1 (.t x),none⟩
@[reducible] def lT (d n x:Nat):aN:=⟨some d,.load true n (.t x),none⟩
@[reducible] def bN (d:Nat)(op:BinOp)(x y:Opd):aN:=⟨some d,.bin op .num x y,none⟩
@[reducible] def pO (d c x:Nat):aN:=⟨some d,.pick (.t c) (.c (.bool true)) (.t x),none⟩
@[reducible] def pA (d c x:Nat):aN:=⟨some d,.pick (.t c) (.t x) (.c (.bool false)),none⟩
@[reducible] def cL (d f:Nat)(args:List Opd):aN:=⟨some d,.call (.f f) args,none⟩
@[reducible] def lN (d x:Nat):aN:=⟨some d,.len .slice (.t x),none⟩
@[reducible] def bX (d n x:Nat):aN:=⟨some d,.box n (.t x),none⟩
@[reducible] def iA (d s x i:Nat):aN:=⟨some d,.ia s (.t x) (.t i),none⟩
@[reducible] def nK (d x:Nat):aN:=⟨some d,.nilck (.t x),none⟩
@[reducible] def nT (d x:Nat):aN:=⟨some d,.un .not (.t x),none⟩
@[reducible] def sT (n a x:Nat):aN:=⟨none,.store n (.t a) (.t x),none⟩
@[reducible] def gM (d t:Nat)(b:Bool)(x:Nat):aN:=⟨some d,.mv (.t x),some (t,b)⟩
@[reducible] def gF (d t:Nat)(b:Bool)(k x:Nat):aN:=⟨some d,.fa k (.t x),some (t,b)⟩
@[reducible] def g1 (d t:Nat)(b:Bool)(x:Nat):aN:=⟨some d,.load false 1 (.t x),some (t,b)⟩
@[reducible] def gT (d t:Nat)(b:Bool)(n x:Nat):aN:=⟨some d,.load true n (.t x),some (t,b)⟩
@[reducible] def gN (d t:Nat)(b:Bool)(x:Nat):aN:=⟨some d,.len .slice (.t x),some (t,b)⟩
@[reducible] def gL (d t:Nat)(b:Bool)(f:Nat)(args:List Opd):aN:=⟨some d,.call (.f f) args,some (t,b)⟩
@[reducible] def gB (d t:Nat)(b:Bool)(op:BinOp)(x y:Opd):aN:=⟨some d,.bin op .num x y,some (t,b)⟩
structure bPk where
 inl:List Nat:=[]
 pan:List Int:=[]
 dyn:Bool:=false
 keep:Bool:=false
 amb:Bool:=false
def bA3 (P:Program)(cfg:Nat->(Operand->Bool)×Bool×Bool):bH:=fun n=>match P.funcs[n]? with
 |some fn=>zK P (cfg n).1 (cfg n).2.1 (cfg n).2.2 fn
 |none=>none
theorem bDy {P:Program}{cfg:Nat->(Operand->Bool)×Bool×Bool}{n:Nat}{fn:Func}(h:P.funcs[n]?=some fn):bA3 P cfg n=zK P (cfg n).1 (cfg n).2.1 (cfg n).2.2 fn:=by simp only[bA3,h]
theorem bDz (P:Program)(cfg:Nat->(Operand->Bool)×Bool×Bool):qK P (bA3 P cfg):=by
 intro f lf h;simp only[bA3]at h
 split at h
 ·rename_i fn hf;exact⟨fn,(cfg f).1,(cfg f).2.1,(cfg f).2.2,hf,h⟩
 ·cases h
end Go.Abs
namespace Go.Abs
open Go.RowKit Go.WideShapes Go.ChangeShapes Go.ChangeAt
variable [Inhabited mS]
variable {H :Type}{enc:TypeId×Value->H}{P:Program}
theorem aFh (hl:laidOutB P=true){W W':World}(hb:Below W.heap.size W W'){sp:Nat->Bool}: ∀{ts:List TypeId} {vs:List Value} {ds:List (DataW H)} {ps:List MemPlace},(∀t∈ts,P.readableRec t=true/\ t<P.types.size)->
  DataW.TrodAll enc P W 0 (fun _=>true) true ts vs ds ps->(∀x∈ps,x.block<W.heap.size)->(∀x∈ps,sp x.block=true)->DataW.TrodAll enc P W' 0 sp true ts vs ds ps
 |[],[],[],ps,_,h,_,_=>h
 |t::ts,v::vs,d::ds,ps,hr,h,hlt,hsp=>by
  obtain⟨p,q,h1,h2,rfl⟩:=h
  refine⟨p,q,WideElems.Trod_stays hl (hr t (by simp)).1 (hr t (by simp)).2 h1 (fun x hx=>hb.same (hlt x (bR1 _ hx))) (fun x hx=>hsp x (bR1 _ hx)),
   aFh hl hb (fun t ht=>hr t (bRu _ ht)) h2 (fun x hx=>hlt x (bRv _ hx)) (fun x hx=>hsp x (bRv _ hx)),rfl⟩
 |[],_::_,_,_,_,h,_,_=>h.elim
 |[],[],_::_,_,_,h,_,_=>h.elim
 |_::_,[],_,_,_,h,_,_=>h.elim
 |_::_,_::_,[],_,_,h,_,_=>h.elim
theorem aSf {f:Func}{s:ChangeSpec}{apart fresh handsOn again:Bool}{W W':World}{args:Array Value}{ds gs:List (DataW H)}{before:List MemPlace}{bt:TypeId}
  (hW:DataW.Whole enc P f.params.toList s.vars apart W args.toList ds gs before) (hvars:s.vars=[]) (hres:f.resultTypes= #[bt]) (hbt:P.underlying bt=some .bool)
  (hfn:s.fn H (ds++gs)={results:=[.lit (.bool true)],args:=ds}) (hl:laidOutB P=true) (hr: ∀t∈f.params.toList,P.readableRec t=true/\ t<P.types.size) (hb:Below W.heap.size W W'):
  s.post enc P f apart fresh handsOn again W args (.bool true) W':=by
 have hlt: ∀x∈before,x.block<W.heap.size:=fun x hx=>hW.lt x hx
 obtain⟨p,q,hA,hV,hbq,hz,hn⟩:=hW;rw[hvars]at hV;obtain⟨rfl,rfl⟩:=trodVars_none hV;have hbp:before=p:=by simpa using hbq
 subst hbp;have harg: ∀sp:Nat->Bool,(∀x∈before,sp x.block=true)->DataW.TrodAll enc P W' 0 sp true f.params.toList args.toList ds before:=fun sp hsp=>aFh hl hb hr hA hlt hsp
 have hresult: ∀(b:Nat) (sp:Nat->Bool) (hd:Bool),DataW.TrodAll enc P W' b sp hd f.resultTypes.toList ((Value.bool true).resultList f.resultTypes.size) [.lit (.bool true)] []:=by
  intro b sp hd;rw[hres];exact trodAll_cons_mk (shut_bool hbt _) trodAll_mk0
 have hvar: ∀sp:Nat->Bool,DataW.TrodVars enc P W' sp s.vars (s.fn H (ds++[])).vars []:=by
  intro sp;rw[hvars,hfn];exact rfl
 refine⟨ds,[],before,[],before,[],⟨before,[],hA,by rw[hvars];exact hV,by simp,hz,hn⟩,by rw[hfn];exact hresult _ _ _,by rw[hfn];exact harg _ (fun x hx=>by simpa using hlt x hx),hvar _,
  World.keptBut_mono (fun x hx=>⟨hx,.inr (by simpa using hx)⟩) (hb.frame (· ∈before)),fun _=>?_⟩
 refine⟨ok_one hres rfl (okWide_bool_mk hbt _),_,_,([]++before)++[],⟨[]++before,[],trodAll_append (harg _ (fun _ _=>rfl)) (hresult _ _ _),hvar _,rfl,fun b off hx=>?_,fun ha=>by simpa using hn ha⟩,fun x hx _=>by simpa using hx⟩
 have hin:MemPlace.cell b off∈before:=by simpa using hx
 rw[hb.frozen (hlt _ hin)];exact hz b off hin
theorem aKr {L:bH}(hm:P.follows .mixedOrders=true)(hL:qK P L){f n:Nat}{args:List Val}(h:lX L n f args=some (.bool true)){S:Nat->Nat->Prop}{w:World}{vals:Array Value}(hS: ∀b o,S b o->b<w.heap.size)(hg:uL S w)
  (hn:vals.size=args.length) (hv: ∀i,i<args.length->VR S Gh.none w (args.getD i .dead) (vals.getD i undef)):Calls P f vals w fun e w'=>e= .returned (.bool true)/\ Below w.heap.size w w':=by
 refine Calls.mono ((aSe hm hL n f args _ h).2 S w vals hS hg hn hv) ?_
 rintro e w' ⟨v,rfl,hb,hr⟩
 have hr':VR (aFe w S w') Gh.none w' (.bool true) v:=hr;cases hr';exact⟨rfl,hb⟩
end Go.Abs
namespace Go.Abs
def aPy (P:Program):Nat->List TypeId->List TypeId
 |0,s=>s
 |d+1,s=>if P.grow s==s then s else aPy P d (P.grow s)
theorem aN3 {P:Program}{s:List TypeId}(h:P.grow s=s): ∀d,P.grown d s=s
 |0=>rfl
 |d+1=>by rw[Program.grown,h];exact aN3 h d
theorem aN4 (P:Program): ∀(d:Nat) (s:List TypeId),P.grown d s=aPy P d s
 |0,s=>rfl
 |d+1,s=>by
  rw[aPy]
  by_cases h:(P.grow s==s)=true
  ·rw[if_pos h];exact aN3 (eq_of_beq h) _
  ·rw[if_neg h,Program.grown];exact aN4 P d _
theorem bA4 (P:Program)(t:TypeId):P.book t=aPy P P.types.size [t]:=aN4 P _ _
def CLe (c c':bC):Prop:= ∀f a r,c f a=some r->c' f a=some r
def ILe (i j:Inl):Prop:=(∀f a s r,i.fn f a s=some r->j.fn f a s=some r)/\ ∀k a s r,i.yld k a s=some r->j.yld k a s=some r
def XLe (x y:aZ->St->Option (Ex×St)):Prop:= ∀c s r,x c s=some r->y c s=some r
variable {c':bC}{d g me:Nat}{en:En}{get:Opd->Val}{op:LOp}
theorem aYg {n:Nat}{c:bC}(h:CLe c c'){r:Res}(he:eval n c me d g en get op=some r):eval n c' me d g en get op=some r:=by
 by_cases hc: ∃f args,op= .call f args
 ·obtain⟨f,args,rfl⟩:=hc;simp only[eval]at he⊢
  split at he
  case h_2=>cases he
  split at he
  case h_2=>cases he
  split at he
  case h_2=>cases he
  rename_i hv;rw[h _ _ _ hv];exact he
 ·cases op<;>first|exact absurd ⟨_,_,rfl⟩ hc|exact he
variable {a:List Val}
theorem aPz {i j:Inl}(h:ILe i j){f:Val}{s:St}{r:Val×St}(he:i.call f a s=some r):j.call f a s=some r:=by
 cases f<;>simp only[Inl.call,reduceCtorEq]at he⊢
 ·exact h.1 _ _ _ _ he
 ·exact h.2 _ _ _ _ he
variable {st:St}
theorem aC0 {n:Nat}{c:bC}{i j:Inl}(hc:CLe c c')(hi:ILe i j){o:aN}{r:St×Res}(h:step n c i 0 st o=some r):step n c' j 0 st o=some r:=by
 obtain⟨dst,op,g⟩:=o;simp only[step]at h⊢
 split at h
 ·exact h
 ·cases op with
  |icall f args=>
   simp only at h⊢
   split at h
   case h_2=>cases h
   rename_i hv;rw[aPz hi hv];exact h
  |_=>
   simp only at h⊢
   split at h
   case h_2=>cases h
   rename_i hv;rw[aYg hc hv];exact h
 ·cases h
theorem wQ {n:Nat}{c c':bC}{i j:Inl}(hc:CLe c c')(hi:ILe i j): ∀(l:List aN) {st r:St},gR n c i 0 l st=some r->gR n c' j 0 l st=some r
 |[],_,_,h=>h
 |o::l,st,r,h=>by
  simp only[gR]at h⊢
  split at h
  case h_2=>cases h
  rename_i hs;rw[aC0 hc hi hs];exact wQ hc hi l h
theorem pX {n:Nat}{c c':bC}{i j:Inl}(hc:CLe c c')(hi:ILe i j): ∀(l:List aN) {st:St} {r:St×List Res},jH n c i 0 l st=some r->jH n c' j 0 l st=some r
 |[],_,_,h=>h
 |o::l,st,r,h=>by
  simp only[jH]at h⊢
  split at h
  case h_2=>cases h
  rename_i hs;rw[aC0 hc hi hs]
  split at h
  case h_2=>cases h
  rename_i hr;simp only[pX hc hi l hr];exact h
variable {lf:iW}{r:Val}{x y:aZ->St->Option (Ex×St)}
theorem yL (h:XLe x y){n:Nat}(hb:jD lf n x a=some r):jD lf n y a=some r:=by
 simp only[jD]at hb⊢
 split at hb
 case h_2=>cases hb
 rename_i hx;rw[h _ _ _ hx];exact hb
theorem aN5 {a b a' b':Option Val}(ha: ∀r,a=some r->a'=some r)(hb: ∀r,b=some r->b'=some r)(h:kI a b=some r):kI a' b'=some r:=by
 unfold kI at h
 split at h<;>first|(cases h;done)|(rw[ha _ rfl,hb _ rfl];exact h)
theorem yM {L:bH}(h:XLe x y){n:Nat}:CLe (bL L n x) (bL L n y):=by
 intro f a r hc;simp only[bL]at hc⊢
 split at hc
 ·cases hc
 split at hc
 case isFalse=>cases hc
 rename_i hl;rw[if_pos hl]
 split at hc
 ·rename_i ha;rw[if_pos ha];exact aN5 (fun _=>yL h) (fun _=>yL h) hc
 ·rename_i ha;rw[if_neg ha];exact yL h hc
variable {f:Nat}
theorem aYh {L:bH}(h:XLe x y){s:St}{r:Val×St}(hc:lD L x f a s=some r):lD L y f a s=some r:=by
 simp only[lD]at hc⊢
 split at hc
 ·cases hc
 split at hc
 case isFalse=>cases hc
 rename_i hl;rw[if_pos hl]
 split at hc
 ·rename_i ha;rw[if_pos ha];obtain⟨v,hv,rfl⟩:=bP5.1 hc;rw[aN5 (fun _=>yL h) (fun _=>yL h) hv];rfl
 ·rename_i ha;rw[if_neg ha]
  split at hc
  case h_2=>cases hc
  rename_i hx;rw[h _ _ _ hx];exact hc
theorem yN {L:bH}(h:XLe x y):ILe (fE L x) (fE L y):=by
 refine⟨fun f a s r hc=>?_,fun k a s r hc=>?_⟩
 ·simp only[fE,aA9]at hc⊢
  split at hc
  case h_2=>cases hc
  rename_i hx;rw[aYh h hx];exact hc
 ·simp only[fE,aE0]at hc⊢
  split at hc
  case h_2=>cases hc
  split at hc
  case isFalse=>cases hc
  rename_i hl;rw[if_pos hl]
  split at hc
  case h_2=>cases hc
  rename_i hx;rw[h _ _ _ hx]
  split at hc
  case h_2=>cases hc
  rename_i hk;simp only[hk]
  split at hc
  case h_2=>cases hc
  rename_i hx2;simp only[h _ _ _ hx2];exact hc
theorem aSg {L:bH}(h:XLe x y):CLe (cO L x) (cO L y):=by
 intro f a r hc;simp only[cO]at hc⊢
 split at hc
 ·cases hc
 split at hc
 case isFalse=>cases hc
 rename_i hl;rw[if_pos hl]
 split at hc
 case h_2=>cases hc
 rename_i hx;simp only[h _ _ _ hx];exact hc
theorem aSh {L:bH}(h:XLe x y){s:St}{r:Val×St}(hc:eG L x f a s=some r):eG L y f a s=some r:=by
 simp only[eG]at hc⊢
 split at hc
 ·cases hc
 split at hc
 case isFalse=>cases hc
 rename_i hl;rw[if_pos hl]
 split at hc
 case h_2=>cases hc
 rename_i hx;simp only[h _ _ _ hx];exact hc
variable {v:Val}
theorem bA5 {L:bH}{n:Nat}(h:cO L x f a=some v):bL L n x f a=none:=by
 simp only[cO]at h
 split at h
 ·cases h
 rename_i lf hlf
 split at h
 case isFalse=>cases h
 rename_i hl
 split at h
 case h_2=>cases h
 rename_i hx;simp only[bL,hlf,hl.1,hl.2,if_true,bPs,if_false,jD,hx,Ex.ends]
theorem aW2 {L:bH}{s:St}{r:Val×St}(h:eG L x f a s=some r):lD L x f a s=none:=by
 simp only[eG]at h
 split at h
 ·cases h
 rename_i lf hlf
 split at h
 case isFalse=>cases h
 rename_i hl
 split at h
 case h_2=>cases h
 rename_i hx;simp only[lD,hlf,hl.1,hl.2,if_true,bPs,if_false,hx,Ex.ends]
theorem bA6 {L:bH}{s:St}{r:Val×St}(h:eG L x f a s=some r):aA9 L x f a s=none:=by
 simp only[aA9,aW2 h]
theorem aBj {L:bH}{n k:Nat}{o:aN}{r:Val×St}(h:dS n (cO L x) (eG L x) st o=some r):step n (bL L k x) (fE L x) 0 st o=none:=by
 obtain⟨dst,op,g⟩:=o;simp only[dS]at h
 split at h
 case h_2=>cases h
 rename_i hw;simp only[step,hw];cases op with
 |panic y=>simp[eval]
 |call f args=>
  simp only at h⊢
  split at h
  case h_2=>cases h
  rename_i hf
  split at h
  case h_2=>cases h
  rename_i hs;obtain⟨v,hv,rfl⟩:=bP5.1 h;simp only[eval,hf,hs,bA5 hv]
 |icall f args=>
  simp only at h⊢
  split at h
  case h_2=>cases h
  rename_i hf
  split at h
  case h_2=>cases h
  rename_i hv;simp only[hf,Inl.call,fE,aA9,aW2 hv]
 |_=>simp at h
variable {p:bC}
theorem tL {L:bH}(hx:XLe x y)(hp:CLe p (cO L y)){n:Nat}{o:aN}{r:Val×St}(h:dS n p (eG L x) st o=some r):dS n (cO L y) (eG L y) st o=some r:=by
 obtain⟨dst,op,g⟩:=o;simp only[dS]at h⊢
 split at h
 case h_2=>cases h
 rename_i hw;cases op with
 |call f args=>
  simp only at h⊢
  split at h
  case h_2=>cases h
  split at h
  case h_2=>cases h
  obtain⟨v,hv,rfl⟩:=bP5.1 h;simp only[hp _ _ _ hv,bQi]
 |icall f args=>
  simp only at h⊢
  split at h
  case h_2=>cases h
  split at h
  case h_2=>cases h
  rename_i hv;rw[aSh hx hv];exact h
 |_=>exact h
theorem aN6 {L:bH}{x y:aZ->St->Option (Ex×St)}{c p:bC}{k:Nat}(hx:XLe x y)(hc:CLe c (bL L k y))(hp:CLe p (cO L y)){n:Nat}: ∀(l:List aN) {st:St} {r:Ex×St},
  aE1 n c (fE L x) p (eG L x) l st=some r->aE1 n (bL L k y) (fE L y) (cO L y) (eG L y) l st=some r
 |[],_,_,h=>h
 |o::l,st,r,h=>by
  simp only[aE1]at h⊢
  split at h
  ·rename_i hq;simp only[tL hx hp hq];exact h
  ·split at h
   case h_2=>cases h
   rename_i hs;have hs':=aC0 hc (yN hx (L:=L)) hs;have hn:dS n (cO L y) (eG L y) st o=none:=by
    cases hq:dS n (cO L y) (eG L y) st o with
    |none=>rfl
    |some q=>rw[aBj hq]at hs';cases hs'
   simp only[hn,hs'];exact aN6 hx hc hp l h
variable {args:List Val}
theorem aVo {L:bH}(hx:XLe x y){f:Val}{e:Ex}{st':St}(h:iK L x f args e st=some st'):iK L y f args e st=some st':=by
 unfold iK at h⊢
 split at h
 case h_2=>cases h
 split at h
 case h_2=>cases h
 split at h
 case h_2=>cases h
 split at h
 case isFalse=>cases h
 rename_i hc
 split at h
 case h_2=>cases h
 rename_i ho
 split at h
 case h_2=>cases h
 rename_i hb;simp only[if_pos hc,wQ (yM hx (L:=L) (n:=8)) (yN hx (L:=L)) _ ho,hx _ _ _ hb];exact h
theorem aEd {L:bH}{x y:aZ->St->Option (Ex×St)}{c p:bC}{k:Nat}(hx:XLe x y)(hc:CLe c (bL L k y))(hp:CLe p (cO L y)){n:Nat}: ∀(l:List aN) {i j:Nat} {st:St},
  qE n c (fE L x) p (eG L x) l i st=some j->qE n (bL L k y) (fE L y) (cO L y) (eG L y) l i st=some j
 |[],_,_,_,h=>h
 |o::l,i,j,st,h=>by
  simp only[qE]at h⊢
  split at h
  ·rename_i hq;simp only[tL hx hp hq];exact h
  ·split at h
   case h_2=>cases h
   rename_i hs;have hs':=aC0 hc (yN hx (L:=L)) hs;have hn:dS n (cO L y) (eG L y) st o=none:=by
    cases hq:dS n (cO L y) (eG L y) st o with
    |none=>rfl
    |some q=>rw[aBj hq]at hs';cases hs'
   simp only[hn,hs'];exact aEd hx hc hp l h
theorem uV {L:bH}{x:aZ->St->Option (Ex×St)}{n k:Nat}: ∀(l:List aN) {i:Nat} {st:St} {r:St×List Res},
  jH n (bL L k x) (fE L x) 0 l st=some r->qE n (bL L k x) (fE L x) (cO L x) (eG L x) l i st=none
 |[],_,_,_,_=>rfl
 |o::l,i,st,r,h=>by
  simp only[jH]at h
  split at h
  case h_2=>cases h
  rename_i hs
  split at h
  case h_2=>cases h
  rename_i hr;have hn:dS n (cO L x) (eG L x) st o=none:=by
   cases hq:dS n (cO L x) (eG L x) st o with
   |none=>rfl
   |some q=>rw[aBj hq]at hs;cases hs
  simp only[qE,hn,hs];exact uV l hr
variable {an:List (List Nat)}{j:Nat}{l:List aN}
theorem aP0 {L:bH}{c:bC}{k:Nat}(hx:XLe x y)(hc:CLe c (bL L k y))(hp:CLe p (cO L y)){n:Nat}{ps:List (Nat×Nat)}{r:Ex×St}
  (h:wK n c (fE L x) p (eG L x) l an ps j st=some r):wK n (bL L k y) (fE L y) (cO L y) (eG L y) l an ps j st=some r:=by
 simp only[wK]at h⊢
 split at h
 case h_2=>cases h
 rename_i hr;rw[pX hc (yN hx (L:=L)) _ hr]
 simp only
 split at h
 case isFalse=>cases h
 rename_i hk;rw[if_pos hk]
 split at h
 case h_2=>cases h
 rename_i hq;simp only[tL hx hp hq];exact h
variable {ps:List Nat}
theorem aVp {L:bH}(h:XLe x y){g:Val}{a b:aZ}{r:Ex×St}(hr:oB L x g ps a b st=some r):oB L y g ps a b st=some r:=by
 unfold oB at hr⊢
 split at hr
 case h_2=>cases hr
 simp only at hr⊢
 split at hr
 ·rename_i hx;have:=(yN h (L:=L)).1 _ _ _ _ hx;simp only[fE]at this;rw[this];exact hr
 ·split at hr
  case h_2=>cases hr
  rename_i hx;have:=aSh h (L:=L) hx;simp only[bA6 this,this];exact hr
def tH (L:bH)(x:aZ->St->Option (Ex×St))(ca p:bC)(c:aZ)(st:St):Option (Ex×St):=
 let i:=fE L x
 match c with
 | .skip=>some (.normal,st)
 | .ops l=>(gR 8 ca i 0 l st).map fun st=>(.normal,st)
 | .draw l ps=>match jH 8 ca i 0 l st with
  |some (st',rs)=>if dP rs ps then some (.normal,st')else none
  |none=>none
 | .seq a b=>match x a st with
  |some (.normal,st')=>x b st'
  |r=>r
 | .cond z a b=>match St.get st.fr z with
  | .bool true=>x a st
  | .bool false=>x b st
  |_=>none
 | .block id b=>match x b st with
  |some (.exit id',st')=>if id'=id then some (.normal,st')else some (.exit id',st')
  |r=>r
 | .loop b=>match x b st with
  |some (.normal,st')=>x (.loop b) st'
  |r=>r
 | .exit id=>some (.exit id,st)
 | .ret=>some (.ret,st)
 | .rangeF g ps a b=>oB L x (St.get st.fr g) ps a b st
 | .opsP l=>aE1 8 ca i p (eG L x) l st
 | .dfr ts l f args b=>match gR 8 ca i 0 l st with
  |some st2=>match x b st2 with
   |some (e,st3)=>if ts.any (fun t=>(st3.fr t).isUndef)then none else(iK L x (St.get st2.fr f) (args.map (St.get st2.fr)) e st3).map fun st4=>(.ret,st4)
   |none=>none
  |none=>none
 | .rcv _ _ _=>none
 | .drawP l an ps=>match qE 8 ca i p (eG L x) l 0 st with
  |some j=>wK 8 ca i p (eG L x) l an ps j st
  |none=>match jH 8 ca i 0 l st with
   |some (st',rs)=>if dP rs ps then some (.normal,st')else none
   |none=>none
 | .drawL l an ps A=>yE 8 ca i p (eG L x) (jJ A (iP st (l.getD A default)) l) an ps A (iP st (l.getD A default)) (wL (iP st (l.getD A default)) (aNr (l.getD A default).op) st)
theorem aHf (L:bH)(n:Nat):exec L (n+1)=tH L (exec L n) (bL L 8 (exec L n)) (cO L (exec L n)):=by
 funext c st
 cases c<;>rfl
theorem aW3 {L:bH}{ca:bC}(ih:XLe x y)(hc:CLe ca (bL L 8 y))(hp:CLe p (cO L y)):XLe (tH L x ca p) (tH L y (bL L 8 y) (cO L y)):=by
 intro c s r h;have hi:=yN ih (L:=L);cases c with
 |skip=>exact h
 |ops l=>
  simp only[tH]at h⊢;obtain⟨st,hs,rfl⟩:=bP5.1 h;rw[wQ hc hi l hs];rfl
 |draw l ps=>
  simp only[tH]at h⊢
  split at h
  case h_2=>cases h
  rename_i hs;rw[pX hc hi l hs];exact h
 |seq a b=>
  simp only[tH]at h⊢;cases hx:x a s with
  |none=>rw[hx]at h;cases h
  |some p=>
   obtain⟨e,st⟩:=p;rw[hx]at h;rw[ih _ _ _ hx];cases e with
   |normal=>exact ih _ _ _ h
   |exit i=>exact h
   |ret=>exact h
   |panic v=>exact h
 |cond z a b=>
  simp only[tH]at h⊢
  split at h
  ·exact ih _ _ _ h
  ·exact ih _ _ _ h
  ·cases h
 |block id b=>
  simp only[tH]at h⊢;cases hx:x b s with
  |none=>rw[hx]at h;cases h
  |some p=>
   obtain⟨e,st⟩:=p;rw[hx]at h;rw[ih _ _ _ hx];exact h
 |loop b=>
  simp only[tH]at h⊢;cases hx:x b s with
  |none=>rw[hx]at h;cases h
  |some p=>
   obtain⟨e,st⟩:=p;rw[hx]at h;rw[ih _ _ _ hx];cases e with
   |normal=>exact ih _ _ _ h
   |exit i=>exact h
   |ret=>exact h
   |panic v=>exact h
 |exit i=>exact h
 |ret=>exact h
 |rangeF g ps a b=>
  simp only[tH]at h⊢;exact aVp ih h
 |opsP l=>
  simp only[tH]at h⊢;exact aN6 ih hc hp l h
 |rcv d l b=>simp[tH]at h
 |drawP l an ps=>
  simp only[tH]at h⊢
  split at h
  ·rename_i hf;simp only[aEd ih hc hp l hf];exact aP0 ih hc hp h
  ·split at h
   case h_2=>cases h
   rename_i hr;have hr':=pX hc hi l hr;simp only[uV (x:=y) l hr',hr'];exact h
 |drawL l an ps A=>
  simp only[tH]at h⊢;unfold yE at h⊢
  split at h
  ·rename_i hf;simp only[aEd ih hc hp _ hf]
   split at h
   case h_2=>cases h
   rename_i hr;rw[pX hc hi _ hr]
   simp only
   split at h
   case isFalse=>cases h
   rename_i hck;rw[if_pos hck]
   split at h
   case h_2=>cases h
   rename_i hq;simp only[tL ih hp hq];exact h
  ·split at h
   case h_2=>cases h
   rename_i hr;have hr':=pX hc hi _ hr;simp only[uV (x:=y) _ hr',hr'];exact h
 |dfr ts l f args b=>
  simp only[tH]at h⊢
  split at h
  case h_2=>cases h
  rename_i hr;simp only[wQ hc hi l hr]
  split at h
  case h_2=>cases h
  rename_i hb;simp only[ih _ _ _ hb]
  split at h
  ·cases h
  rename_i hts;rw[if_neg hts];obtain⟨q,hq,rfl⟩:=bP5.1 h;rw[aVo ih hq];rfl
theorem aYi (L:bH): ∀n,XLe (exec L n) (exec L (n+1)):=by
 intro n
 induction n with
 |zero=>intro c s r h;simp[exec]at h
 |succ n ih=>rw[aHf,aHf];exact aW3 ih (yM ih) (aSg ih)
variable {m:Nat}
theorem bD0 (L:bH){n:Nat}(h:n<=m):XLe (exec L n) (exec L m):=by
 induction h with
 |refl=>intro c s r h;exact h
 |step _ ih=>intro c s r h;exact aYi L _ _ _ _ (ih _ _ _ h)
theorem aBk {L:bH}{n:Nat}(h:n<=m)(hr:lX L n f a=some r):lX L m f a=some r:=yM (bD0 L h) _ _ _ hr
def PC (L:bH)(f:Nat)(args:List Val)(r:Val):Prop:= ∃n0,∀n,n0<=n->lX L n f args=some r
def Ev (L:bH)(c:aZ)(st:St)(e:Ex)(st':St):Prop:= ∃n0,∀n,n0<=n->exec L n c st=some (e,st')
def WIn (L:bH)(f:Val)(args:List Val)(en:En)(cnt:Nat->Nat->Nat)(Q:Val->En->(Nat->Nat->Nat)->Prop):Prop:=
 ∃v en' cnt',(∃n0,∀n,n0<=n-> ∀fr,(fE L (exec L n)).call f args ⟨fr,en,cnt⟩=some (v,⟨fr,en',cnt'⟩))/\ Q v en' cnt'
variable {Q:Val->En->(Nat->Nat->Nat)->Prop}{cnt:Nat->Nat->Nat}
theorem WIn.mono {L:bH}{f:Val}{R:Val->En->(Nat->Nat->Nat)->Prop}
  (h:WIn L f args en cnt Q) (k: ∀v en' cnt',Q v en' cnt'->R v en' cnt'):WIn L f args en cnt R:=by
 obtain⟨v,en',cnt',h1,h2⟩:=h;exact⟨v,en',cnt',h1,k _ _ _ h2⟩
theorem PC.det {L:bH}{s:Val}(h:PC L f args r)(k:PC L f args s):s=r:=by
 obtain⟨n,h⟩:=h;obtain⟨m,k⟩:=k;have h1:=h (max n m) (by omega);have h2:=k (max n m) (by omega)
 rw[h1]at h2;cases h2;rfl
theorem PC.is {L:bH}{s:Val}(h:PC L f args r):PC L f args s↔s=r:=
 ⟨fun k=>h.det k,fun e=>e▸h⟩
def bG7 :bC:=fun _ _=>none
def snapD :Nat->En->Val->Option (Val×List Key)
 |0,_,_=>none
 |n+1,en,v=>
  match v with
  | .ptr k off=>match en k with
   |some (.box cs _)=>match cT (snapD n en) cs with
    |some rs=>some (.fp (rs.map (·.1)) off,k::rs.flatMap (·.2))
    |none=>none
   |_=>none
  | .ep k i off=>match en k with
   |some (.blk _ xs _)=>if k.deep then none else match xs[i]? with
    |some x=>some (.fp x.cells off,[k])
    |none=>none
   |_=>none
  | .bl k off len=>match en k with
   |some (.blk _ xs _)=>if k.deep then none else if off+len<=xs.length then some (.fz ((xs.drop off).take len),[k])else none
   |_=>none
  | .mp k=>match en k with
   |some (.map ks vs _)=>some (.fm ks vs,[k])
   |_=>none
  | .yld _| .it _=>none
  | .fn f a b=>match cT (snapD n en) a with
   |some x=>match cT (snapD n en) b with
    |some y=>some (.fn f (x.map (·.1)) (y.map (·.1)),x.flatMap (·.2)++y.flatMap (·.2))
    |none=>none
   |none=>none
  | .ifc t v=>match snapD n en v with
   |some r=>some (.ifc t r.1,r.2)
   |none=>none
  | .agg cs=>match cT (snapD n en) cs with
   |some rs=>some (.agg (rs.map (·.1)),rs.flatMap (·.2))
   |none=>none
  | .tup vs=>match cT (snapD n en) vs with
   |some rs=>some (.tup (rs.map (·.1)),rs.flatMap (·.2))
   |none=>none
  |v=>some (v,[])
variable {α:Type}
theorem aBl {β:Type}{f g:α->Option β}(h: ∀x y,f x=some y->g x=some y): ∀{l:List α} {r:List β},cT f l=some r->cT g l=some r:=by
 intro l
 induction l with
 |nil=>intro r h';exact h'
 |cons x xs ih=>
  intro r h';simp only[cT]at h'⊢
  split at h'
  ·rename_i y hy
   split at h'
   ·rename_i ys hys;rw[h x y hy,ih hys];exact h'
   ·cases h'
  ·cases h'
theorem uW (en:En): ∀(n:Nat) (v:Val) (r:Val×List Key),snapD n en v=some r-> ∀m,n<=m->snap m en v=some r:=by
 intro n
 induction n with
 |zero=>intro v r h;simp[snapD]at h
 |succ n ih=>
  intro v r h m hm;obtain⟨m,rfl⟩: ∃k,m=k+1:=⟨m-1,by omega⟩
  have hl: ∀{l:List Val} {rs:List (Val×List Key)},cT (snapD n en) l=some rs->cT (snap m en) l=some rs:=
   fun h=>aBl (fun x y hx=>ih x y hx m (by omega)) h
  cases v with
  |ptr k off=>
   simp only[snapD]at h;simp only[snap]
   split at h
   ·rename_i hk
    split at h
    ·rename_i hrs;simp only[bPo]at h;subst h;simp only[hk,hl hrs,Option.map]
    ·cases h
   ·cases h
  |bl k off len=>
   simp only[snapD]at h;simp only[snap]
   split at h
   case h_2=>cases h
   rename_i hk
   split at h
   ·cases h
   rename_i hd
   split at h
   case isFalse=>cases h
   rename_i hl;simp only[hk,if_neg hd,if_pos hl];exact h
  |fn f a b=>
   simp only[snapD]at h;simp only[snap]
   split at h
   ·rename_i hx
    split at h
    ·rename_i hy;simp only[bPo]at h;subst h;simp only[hl hx,hl hy,Option.map]
    ·cases h
   ·cases h
  |ifc t v=>
   simp only[snapD]at h;simp only[snap]
   split at h
   ·rename_i hx;simp only[bPo]at h;subst h;simp only[ih _ _ hx m (by omega),Option.map]
   ·cases h
  |agg cs=>
   simp only[snapD]at h;simp only[snap]
   split at h
   ·rename_i hx;simp only[bPo]at h;subst h;simp only[hl hx,Option.map]
   ·cases h
  |tup vs=>
   simp only[snapD]at h;simp only[snap]
   split at h
   ·rename_i hx;simp only[bPo]at h;subst h;simp only[hl hx,Option.map]
   ·cases h
  |_=>exact h
def dE (d g:Nat)(en:En)(get:Opd->Val):LOp->Option Res
 | .bslice len size z parts=>
  if len*size<=16777216 then
   match cT (fun p=>match snapD 8 en (get p.2)with|some r=>some ((p.1,r.1.wk1),r.2)|none=>none) parts with
   |some ps=>match eE (List.replicate len (kE size z false)) size (ps.map (·.1))with
    |some xs=>some {v:= .cl xs,ws:=(ps.flatMap (·.2)).map .frz,rs:=(ps.flatMap (·.2)).map .val}
    |none=>none
   |none=>none
  else none
 | .store m a x=>
  let v:=get x
  if v.one=true/\ v.cells.length=m then
   match get a with
   | .ptr k off=>match en k with
    |some (.box cs false)=>if off+m<=cs.length then some {v:= .tup [],ws:=[.cells k off v.cells],rs:=[.flag k]}else none
    |_=>none
   | .ep k i off=>match en k with
    |some (.blk _ xs false)=>match xs[i]? with
     |some y=>if off+m<=y.cells.length then
       if k.deep then none else
       match snapD 8 en v with
       |some (v',ks)=>if v'.one=true/\ v'.cells.length=m/\ ks.all (fun k'=>decide (k'≠k))=true then some {v:= .tup [],ws:=ks.map .frz++[.elem k i off v'.wk1.cells],rs:= .val k:: .flag k::ks.map .val}else none
       |none=>none
      else none
     |none=>none
    |_=>none
   |_=>none
  else none
 | .call _ _| .icall _ _| .appendD .. | .bsliceK .. =>none
 |op=>eval 8 bG7 0 d g en get op
theorem bA7 {r:Res}(h:dE d g en get op=some r)(call:bC)(n:Nat)(hn:8<=n):
  eval n call 0 d g en get op=some r:=by
 cases op with
 |bslice len size z parts=>
  simp only[dE]at h;simp only[eval]
  split at h
  ·rename_i hc;rw[if_pos hc]
   split at h
   ·rename_i ps hps;have:cT (fun p=>(snap n en (get p.2)).map fun r=>((p.1,r.1.wk1),r.2)) parts=some ps:=by
     refine aBl (fun x y hx=>?_) hps
     split at hx
     ·rename_i r hr;simp only[bPo]at hx;subst hx;rw[uW en 8 _ _ hr n hn];rfl
     ·cases hx
    rw[this];exact h
   ·cases h
  ·cases h
 |store m a x=>
  simp only[dE]at h;simp only[eval]
  split at h
  ·rename_i hc;rw[if_pos hc]
   split at h
   ·rename_i hg;simp only[hg];exact h
   ·rename_i hg;simp only[hg]
    split at h
    ·rename_i he;simp only[he]
     split at h
     ·rename_i hy;simp only[hy]
      split at h
      ·rename_i hl;rw[if_pos hl]
       split at h
       ·cases h
       rename_i hd;rw[if_neg hd]
       split at h
       ·rename_i hs;simp only[uW en 8 _ _ hs n hn];exact h
       ·cases h
      ·cases h
     ·cases h
    ·cases h
   ·cases h
  ·cases h
 |call f a=>simp[dE]at h
 |icall f a=>simp[dE]at h
 |appendD=>simp[dE]at h
 |bsliceK=>simp[dE]at h
 |_=>exact h
def WOp (L:bH)(d g:Nat)(en:En)(get:Opd->Val)(op:LOp)(K:Res->Prop):Prop:=
 match op with
 | .call f args=>match get f with
  | .fn f a b=>match cT (snapD 8 en) (a++args.map get++b)with
   |some rs=> ∃r,PC L f (rs.map (·.1.wk1)) r/\ K (iE 0 d g r (rs.flatMap (·.2)))
   |none=>False
  |_=>False
 |op=>match dE d g en get op with
  |some r=>K r
  |none=>False
theorem bG8 {L:bH}{K:Res->Prop}(h:WOp L d g en get op K):
  op.me 0=0/\ ∃r,(∃n0,∀n,n0<=n->eval 8 (lX L n) 0 d g en get op=some r)/\ K r:=by
 have oth:(match dE d g en get op with|some r=>K r|none=>False)->op.me 0=0/\ ∃r,(∃n0,∀n,n0<=n->eval 8 (lX L n) 0 d g en get op=some r)/\ K r:=by
  intro h
  refine⟨by cases op<;>first|rfl|simp[dE]at h,?_⟩
  split at h
  ·rename_i r hr;exact⟨r,⟨0,fun n _=>bA7 hr _ 8 (bPq _)⟩,h⟩
  ·exact h.elim
 cases op with
 |call f args=>
  simp only[WOp]at h
  split at h
  ·rename_i f' a b hf
   split at h
   ·rename_i rs hrs;obtain⟨r,⟨n1,h1⟩,hk⟩:=h
    refine⟨rfl,_,⟨n1,fun n hn=>?_⟩,hk⟩
    have:cT (fun x=>snap 8 en x) (a++args.map get++b)=some rs:=aBl (fun x y hx=>uW en 8 x y hx 8 (bPq _)) hrs
    simp only[eval,hf,this,h1 n (by omega)]
   ·exact h.elim
  ·exact h.elim
 |_=>exact oth h
def oT (L:bH)(st:St)(o:aN)(K:St->Res->Prop):Prop:=
 match wanted st.fr o.guard with
 |some true=>match o.op with
  | .icall f args=>WIn L (St.get st.fr f) (args.map (St.get st.fr)) st.en st.cnt fun v en' cnt'=>K ⟨iI st.fr o.dst v,en',cnt'⟩ {v,mem:=some (en',cnt'),unch:=fun k=>aRh (st.en k) (en' k)}
  |op=>WOp L (o.dst.getD 0) (st.cnt 0 (o.dst.getD 0)) st.en (St.get st.fr) op fun r=>(r.bump&&o.dst.isNone)=false/\
    K ⟨iI st.fr o.dst r.v,W.applyAll st.en r.ws,if r.bump then aC st.cnt 0 (o.dst.getD 0) (st.cnt 0 (o.dst.getD 0)+1)else st.cnt⟩ r
 |some false=>K ⟨iI st.fr o.dst (.tup []),st.en,st.cnt⟩ {v:= .tup []}
 |none=>False
def jE (L:bH):List aN->St->(St->Prop)->Prop
 |[],st,Q=>Q st
 |o::l,st,Q=>oT L st o fun st' _=>jE L l st' Q
def sH (L:bH):List aN->St->(St->List Res->Prop)->Prop
 |[],st,Q=>Q st []
 |o::l,st,Q=>oT L st o fun st' r=>sH L l st' fun st'' rs=>Q st'' (r::rs)
def PX (L:bH)(f:Nat)(args:List Val)(v:Val):Prop:= ∃n0,∀n,n0<=n->bGm L n f args=some v
def xQ (L:bH)(f:Nat)(args:List Val)(en:En)(cnt:Nat->Nat->Nat)(Q:Val->En->(Nat->Nat->Nat)->Prop):Prop:=
 ∃v en' cnt',(∃n0,∀n,n0<=n-> ∀fr,eG L (exec L n) f args ⟨fr,en,cnt⟩=some (v,⟨fr,en',cnt'⟩))/\ Q v en' cnt'
theorem xQ.mono {L:bH}{R:Val->En->(Nat->Nat->Nat)->Prop}
  (h:xQ L f args en cnt Q) (k: ∀v en' cnt',Q v en' cnt'->R v en' cnt'):xQ L f args en cnt R:=by
 obtain⟨v,en',cnt',h1,h2⟩:=h;exact⟨v,en',cnt',h1,k _ _ _ h2⟩
def lL (L:bH)(o:aN)(st:St)(K:Val->St->Prop):Prop:=
 match wanted st.fr o.guard with
 |some true=>match o.op with
  | .panic x=>match St.get st.fr x with
   | .ifc t u=>(Val.ifc t u).flat=true/\ K (.ifc t u) st
   |_=>False
  | .call f args=>match f.noM,St.get st.fr f with
   |true,.fn f a b=>match cT (snapD 8 st.en) (a++args.map (St.get st.fr)++b)with
    |some rs=> ∃v,PX L f (rs.map (·.1.wk1)) v/\ K v st
    |none=>False
   |_,_=>False
  | .icall f args=>match St.get st.fr f with
   | .fn f a b=>xQ L f (a++args.map (St.get st.fr)++b) st.en st.cnt fun v en' cnt'=>K v ⟨st.fr,en',cnt'⟩
   |_=>False
  |_=>False
 |_=>False
theorem uX {L:bH}{o:aN}{K K':Val->St->Prop}(h:lL L o st K)(k: ∀v s,K v s->K' v s):lL L o st K':=by
 unfold lL at h⊢
 split at h
 case h_2=>cases h
 split at h
 ·split at h
  case h_2=>cases h
  exact⟨h.1,k _ _ h.2⟩
 ·split at h
  case h_2=>cases h
  split at h
  case h_2=>cases h
  obtain⟨v,h1,h2⟩:=h;exact⟨v,h1,k _ _ h2⟩
 ·split at h
  case h_2=>cases h
  exact h.mono fun _ _ _=>k _ _
 ·cases h
theorem aBm {L:bH}{o:aN}{K:Val->St->Prop}(h:lL L o st K):
  ∃v st',(∃n0,∀n,n0<=n->dS 8 (cO L (exec L n)) (eG L (exec L n)) st o=some (v,st'))/\ K v st':=by
 unfold lL at h
 split at h
 case h_2=>cases h
 rename_i hw
 split at h
 ·rename_i x hop
  split at h
  case h_2=>cases h
  rename_i t u hu;exact⟨_,_,⟨0,fun n _=>by simp only[dS,hw,hop,hu,h.1,if_true]⟩,h.2⟩
 ·rename_i f args hop
  split at h
  case h_2=>cases h
  rename_i f' a b hf1 hf2
  split at h
  case h_2=>cases h
  rename_i rs hrs;obtain⟨v,⟨n0,h1⟩,h2⟩:=h
  refine⟨v,st,⟨n0,fun n hn=>?_⟩,h2⟩
  have:cT (fun x=>snap 8 st.en x) (a++args.map (St.get st.fr)++b)=some rs:=aBl (fun x y hx=>uW st.en 8 x y hx 8 (bPq _)) hrs
  have h1:=h1 n hn;unfold bGm at h1;simp only[dS,hw,hop,hf1,hf2,this,h1,bQi]
 ·rename_i f args hop
  split at h
  case h_2=>cases h
  rename_i f' a b hf;obtain⟨v,en',cnt',⟨n0,h1⟩,h2⟩:=h;exact⟨v,_,⟨n0,fun n hn=>by simp only[dS,hw,hop,hf,h1 n hn]⟩,h2⟩
 ·cases h
def kO (cnt:Nat->Nat->Nat):Key:=⟨1,0,cnt 1 0⟩
def Wp (L:bH):aZ->St->(Ex->St->Prop)->Prop
 | .skip,st,Q=>Q .normal st
 | .ops l,st,Q=>jE L l st (Q .normal)
 | .draw l pairs,st,Q=>if pairs=[]then jE L l st (Q .normal)else sH L l st fun st' rs=>dP rs pairs=true/\ Q .normal st'
 | .seq a b,st,Q=>Wp L a st fun e st'=>match e with
  | .normal=>Wp L b st' Q
  | .exit i=>Q (.exit i) st'
  | .ret=>Q .ret st'
  | .panic v=>Q (.panic v) st'
 | .cond x a b,st,Q=>match St.get st.fr x with
  | .bool t=>if t=true then Wp L a st Q else Wp L b st Q
  |_=>False
 | .block id b,st,Q=>Wp L b st fun e st'=>match e with
  | .exit id'=>if id'=id then Q .normal st' else Q (.exit id') st'
  | .normal=>Q .normal st'
  | .ret=>Q .ret st'
  | .panic v=>Q (.panic v) st'
 | .loop b,st,Q=> ∃e st',Ev L (.loop b) st e st'/\ Q e st'
 | .exit id,st,Q=>Q (.exit id) st
 | .ret,st,Q=>Q .ret st
 | .rangeF g ps a b,st,Q=>
  match St.get st.fr g with
  | .fn f x y=>(WIn L (.fn f x y) [.yld (kO st.cnt)] (st.en.set (kO st.cnt) (some (.loop st.fr ps a b .ready))) (aC st.cnt 1 0 (st.cnt 1 0+1)) fun _ en' cnt'=>
   match en' (kO st.cnt)with
   |some (.loop _ _ _ _ .ready)=>Q .normal ⟨st.fr,en'.set (kO st.cnt) none,cnt'⟩
   |some (.loop _ _ _ _ (.done e))=>Q e ⟨st.fr,en'.set (kO st.cnt) none,cnt'⟩
   |_=>False) \/xQ L f (x++[.yld (kO st.cnt)]++y) (st.en.set (kO st.cnt) (some (.loop st.fr ps a b .ready))) (aC st.cnt 1 0 (st.cnt 1 0+1)) fun v en' cnt'=>Q (.panic v) ⟨st.fr,en'.set (kO st.cnt) none,cnt'⟩
  |_=>False
 | .opsP l,st,Q=>jE L l st (Q .normal) \/ ∃k o,l[k]?=some o/\ jE L (l.take k) st fun st1=>lL L o st1 fun v st2=>Q (.panic v) st2
 | .drawP l an pairs,st,Q=>(sH L l st fun st' rs=>dP rs pairs=true/\ Q .normal st') \/
   ∃j o,l[j]?=some o/\ (jE L (l.take j) st fun s=>lL L o s fun _ _=>True)/\ sH L (dC an j l) st fun st1 rs=>(dP rs pairs&&jO an j l rs)=true/\
    lL L o st1 fun v st2=>Q (.panic v) ⟨fun t=>if mR l t then .tup []else st2.fr t,st2.en,st2.cnt⟩
 | .drawL l an pairs A,st,Q=>(sH L (jJ A (iP st (l.getD A default)) l) (wL (iP st (l.getD A default)) (aNr (l.getD A default).op) st) fun st' rs=>(dP rs pairs&&pI an A (iP st (l.getD A default)) rs)=true/\ Q .normal st') \/
   ∃j o,(jJ A (iP st (l.getD A default)) l)[j]?=some o/\ (jE L ((jJ A (iP st (l.getD A default)) l).take j) (wL (iP st (l.getD A default)) (aNr (l.getD A default).op) st) fun s=>lL L o s fun _ _=>True)/\
    sH L (dC an j (jJ A (iP st (l.getD A default)) l)) (wL (iP st (l.getD A default)) (aNr (l.getD A default).op) st) fun st1 rs=>((dP rs pairs&&jO an j (jJ A (iP st (l.getD A default)) l) rs)&&pI an A (iP st (l.getD A default)) rs)=true/\
    lL L o st1 fun v st2=>Q (.panic v) ⟨fun t=>if mR (jJ A (iP st (l.getD A default)) l) t then .tup []else st2.fr t,st2.en,st2.cnt⟩
 | .dfr ts l f args b,st,Q=>jE L l st fun st2=>Wp L b st2 fun e st3=>ts.any (fun t=>(st3.fr t).isUndef)=false/\
   ∃st4,(∃n0,∀n,n0<=n->iK L (exec L n) (St.get st2.fr f) (args.map (St.get st2.fr)) e st3=some st4)/\ Q .ret st4
 | .rcv _ _ _,_,_=>False
variable {call:bC}{io:Inl}
theorem bD1 {n:Nat}{o:aN}{r:Res}(hme:o.op.me 0=0)(hne: ∀f a,o.op≠ .icall f a)(hw:wanted st.fr o.guard=some true)
  (he:eval n call 0 (o.dst.getD 0) (st.cnt 0 (o.dst.getD 0)) st.en (St.get st.fr) o.op=some r) (hb:(r.bump&&o.dst.isNone)=false):
  step n call io 0 st o=some (⟨iI st.fr o.dst r.v,W.applyAll st.en r.ws,if r.bump then aC st.cnt 0 (o.dst.getD 0) (st.cnt 0 (o.dst.getD 0)+1)else st.cnt⟩,r):=by
 obtain⟨dst,op,guard⟩:=o
 simp only at hw he hb hne hme
 cases op with
 |icall f a=>exact absurd rfl (hne _ _)
 |_=>simp only[step,hw,hme,he,hb,bPs,if_false]
theorem aW4 {L:bH}{o:aN}{K:St->Res->Prop}(h:oT L st o K):
  ∃st' r,(∃n0,∀n,n0<=n->step 8 (lX L n) (fE L (exec L n)) 0 st o=some (st',r))/\ K st' r:=by
 unfold oT at h
 split at h
 ·rename_i hw
  split at h
  ·rename_i f args hop;obtain⟨v,en',cnt',⟨n0,hn⟩,hk⟩:=h
   refine⟨_,_,⟨n0,fun n hn'=>?_⟩,hk⟩
   simp only[step,hw,hop,hn n hn']
  ·rename_i op hne;obtain⟨hme,r,⟨n0,hn⟩,hb,hk⟩:=bG8 h;exact⟨_,r,⟨n0,fun n hn'=>bD1 hme (fun f a=>hne f a) hw (hn n hn') hb⟩,hk⟩
 ·rename_i hw;exact⟨_,_,⟨0,fun n _=>by simp only[step,hw]⟩,h⟩
 ·exact h.elim
theorem aBn {L:bH}(l:List aN): ∀{st:St} {Q:St->Prop},jE L l st Q->
  ∃st',(∃n0,∀n,n0<=n->gR 8 (lX L n) (fE L (exec L n)) 0 l st=some st')/\ Q st':=by
 induction l with
 |nil=>intro st Q h;exact⟨st,⟨0,fun n _=>rfl⟩,h⟩
 |cons o l ih=>
  intro st Q h;obtain⟨st1,r,⟨n1,h1⟩,hk⟩:=aW4 h;obtain⟨st2,⟨n2,h2⟩,hq⟩:=ih hk;exact⟨st2,⟨max n1 n2,fun n hn=>by simp only[gR,h1 n (by omega),h2 n (by omega)]⟩,hq⟩
theorem aKs {L:bH}(l:List aN): ∀{st:St} {Q:St->List Res->Prop},sH L l st Q->
  ∃st' rs,(∃n0,∀n,n0<=n->jH 8 (lX L n) (fE L (exec L n)) 0 l st=some (st',rs))/\ Q st' rs:=by
 induction l with
 |nil=>intro st Q h;exact⟨st,[],⟨0,fun n _=>rfl⟩,h⟩
 |cons o l ih=>
  intro st Q h;obtain⟨st1,r,⟨n1,h1⟩,hk⟩:=aW4 h;obtain⟨st2,rs,⟨n2,h2⟩,hq⟩:=ih hk;exact⟨st2,r::rs,⟨max n1 n2,fun n hn=>by simp only[jH,h1 n (by omega),h2 n (by omega)]⟩,hq⟩
theorem aHg {n:Nat}(l:List aN): ∀{st st':St},gR n call io 0 l st=some st'-> ∃rs,jH n call io 0 l st=some (st',rs):=by
 induction l with
 |nil=>intro st st' h;simp only[gR,bPo]at h;subst h;exact⟨[],rfl⟩
 |cons o l ih=>
  intro st st' h;simp only[gR]at h
  split at h
  ·rename_i st1 r hs;obtain⟨rs,hr⟩:=ih h;exact⟨r::rs,by simp only[jH,hs,hr]⟩
  ·cases h
theorem aW5 {L:bH}{x:aZ->St->Option (Ex×St)}{k:Nat}: ∀(l:List aN) {st st':St},gR 8 (bL L k x) (fE L x) 0 l st=some st'->aE1 8 (bL L k x) (fE L x) (cO L x) (eG L x) l st=some (.normal,st')
 |[],st,st',h=>by simp only[gR,bPo]at h;subst h;rfl
 |o::l,st,st',h=>by
  simp only[gR]at h
  split at h
  case h_2=>cases h
  rename_i hs;have hn:dS 8 (cO L x) (eG L x) st o=none:=by
   cases hq:dS 8 (cO L x) (eG L x) st o with
   |none=>rfl
   |some q=>rw[aBj hq]at hs;cases hs
  simp only[aE1,hn,hs];exact aW5 l h
theorem aFi {L:bH}{x:aZ->St->Option (Ex×St)}{k:Nat}: ∀(l:List aN) {j:Nat} {o:aN} {st st':St} {v:Val} {st2:St},l[j]?=some o->gR 8 (bL L k x) (fE L x) 0 (l.take j) st=some st'->
  dS 8 (cO L x) (eG L x) st' o=some (v,st2)->aE1 8 (bL L k x) (fE L x) (cO L x) (eG L x) l st=some (.panic v,st2)/\ ∀i,qE 8 (bL L k x) (fE L x) (cO L x) (eG L x) l i st=some (i+j)
 |[],j,o,st,st',v,st2,hj,_,_=>by simp at hj
 |o'::l,0,o,st,st',v,st2,hj,hr,hp=>by
  simp only[bR9,bPo]at hj;subst hj;simp only[bPw,gR,bPo]at hr;subst hr;exact⟨by simp only[aE1,hp],fun i=>by simp only[qE,hp,bQ9]⟩
 |o'::l,j+1,o,st,st',v,st2,hj,hr,hp=>by
  simp only[bS3]at hj;simp only[bP0,gR]at hr
  split at hr
  case h_2=>cases hr
  rename_i hs;have hn:dS 8 (cO L x) (eG L x) st o'=none:=by
   cases hq:dS 8 (cO L x) (eG L x) st o' with
   |none=>rfl
   |some q=>rw[aBj hq]at hs;cases hs
  obtain⟨h1,h2⟩:=aFi l hj hr hp
  refine⟨by simp only[aE1,hn,hs];exact h1,fun i=>?_⟩
  simp only[qE,hn,hs];rw[h2 (i+1)]
  congr 1;omega
theorem aI9 {L:bH}{ex:aZ->St->Option (Ex×St)}{r:Val×St}(h:eG L ex f args st=some r):aA9 L ex f args st=none:=by
 unfold eG at h
 split at h
 ·cases h
 rename_i lf hL
 split at h
 case isFalse=>cases h
 rename_i hc;have:lD L ex f args st=none:=by
  simp only[lD,hL,hc.1,if_true,hc.2,bPs,if_false]
  split at h
  ·rename_i v st' he;rw[he];rfl
  ·cases h
 simp only[aA9,this]
theorem aFj {L:bH}(c:aZ): ∀{st:St} {Q:Ex->St->Prop},Wp L c st Q-> ∃e st',Ev L c st e st'/\ Q e st':=by
 induction c with
 |skip=>intro st Q h;exact⟨.normal,st,⟨1,fun n hn=>by obtain⟨m,rfl⟩: ∃m,n=m+1:=⟨n-1,by omega⟩;rfl⟩,h⟩
 |ops l=>
  intro st Q h;obtain⟨st',⟨n0,h0⟩,hq⟩:=aBn l h
  refine⟨.normal,st',⟨n0+1,fun n hn=>?_⟩,hq⟩
  obtain⟨m,rfl⟩: ∃m,n=m+1:=⟨n-1,by omega⟩
  have:=h0 m (by omega)
  simp only[lX]at this;simp only[exec,this,Option.map]
 |draw l pairs=>
  intro st Q h;simp only[Wp]at h
  split at h
  ·rename_i hp;obtain⟨st',⟨n0,h0⟩,hq⟩:=aBn l h
   refine⟨.normal,st',⟨n0+1,fun n hn=>?_⟩,hq⟩
   obtain⟨m,rfl⟩: ∃m,n=m+1:=⟨n-1,by omega⟩
   obtain⟨rs,hr⟩:=aHg l (h0 m (by omega))
   simp only[lX]at hr;simp only[exec,hr,hp,dP,List.all_nil,if_true]
  ·obtain⟨st',rs,⟨n0,h0⟩,hp,hq⟩:=aKs l h
   refine⟨.normal,st',⟨n0+1,fun n hn=>?_⟩,hq⟩
   obtain⟨m,rfl⟩: ∃m,n=m+1:=⟨n-1,by omega⟩
   have hr:=h0 m (by omega)
   simp only[lX]at hr;simp only[exec,hr,hp,if_true]
 |seq a b iha ihb=>
  intro st Q h;obtain⟨e,st1,⟨n1,h1⟩,hk⟩:=iha h;cases e with
  |normal=>
   obtain⟨e2,st2,⟨n2,h2⟩,hq⟩:=ihb hk
   refine⟨e2,st2,⟨max n1 n2+1,fun n hn=>?_⟩,hq⟩
   obtain⟨m,rfl⟩: ∃m,n=m+1:=⟨n-1,by omega⟩
   simp only[exec,h1 m (by omega),h2 m (by omega)]
  |exit id=>
   refine⟨_,st1,⟨n1+1,fun n hn=>?_⟩,hk⟩
   obtain⟨m,rfl⟩: ∃m,n=m+1:=⟨n-1,by omega⟩
   simp only[exec,h1 m (by omega)]
  |ret=>
   refine⟨_,st1,⟨n1+1,fun n hn=>?_⟩,hk⟩
   obtain⟨m,rfl⟩: ∃m,n=m+1:=⟨n-1,by omega⟩
   simp only[exec,h1 m (by omega)]
  |panic v=>
   refine⟨_,st1,⟨n1+1,fun n hn=>?_⟩,hk⟩
   obtain⟨m,rfl⟩: ∃m,n=m+1:=⟨n-1,by omega⟩
   simp only[exec,h1 m (by omega)]
 |cond x a b iha ihb=>
  intro st Q h;simp only[Wp]at h
  split at h
  ·rename_i t ht;cases t with
   |true=>
    obtain⟨e,st1,⟨n1,h1⟩,hk⟩:=iha (by simpa using h)
    refine⟨e,st1,⟨n1+1,fun n hn=>?_⟩,hk⟩
    obtain⟨m,rfl⟩: ∃m,n=m+1:=⟨n-1,by omega⟩
    simp only[exec,ht,h1 m (by omega)]
   |false=>
    obtain⟨e,st1,⟨n1,h1⟩,hk⟩:=ihb (by simpa using h)
    refine⟨e,st1,⟨n1+1,fun n hn=>?_⟩,hk⟩
    obtain⟨m,rfl⟩: ∃m,n=m+1:=⟨n-1,by omega⟩
    simp only[exec,ht,h1 m (by omega)]
  ·exact h.elim
 |block id b ih=>
  intro st Q h;obtain⟨e,st1,⟨n1,h1⟩,hk⟩:=ih h;cases e with
  |exit id'=>
   simp only at hk
   by_cases hi:id'=id
   ·rw[if_pos hi]at hk
    refine⟨.normal,st1,⟨n1+1,fun n hn=>?_⟩,hk⟩
    obtain⟨m,rfl⟩: ∃m,n=m+1:=⟨n-1,by omega⟩
    simp only[exec,h1 m (by omega),hi,if_true]
   ·rw[if_neg hi]at hk
    refine⟨.exit id',st1,⟨n1+1,fun n hn=>?_⟩,hk⟩
    obtain⟨m,rfl⟩: ∃m,n=m+1:=⟨n-1,by omega⟩
    simp only[exec,h1 m (by omega),hi,if_false]
  |normal=>
   refine⟨_,st1,⟨n1+1,fun n hn=>?_⟩,hk⟩
   obtain⟨m,rfl⟩: ∃m,n=m+1:=⟨n-1,by omega⟩
   simp only[exec,h1 m (by omega)]
  |ret=>
   refine⟨_,st1,⟨n1+1,fun n hn=>?_⟩,hk⟩
   obtain⟨m,rfl⟩: ∃m,n=m+1:=⟨n-1,by omega⟩
   simp only[exec,h1 m (by omega)]
  |panic v=>
   refine⟨_,st1,⟨n1+1,fun n hn=>?_⟩,hk⟩
   obtain⟨m,rfl⟩: ∃m,n=m+1:=⟨n-1,by omega⟩
   simp only[exec,h1 m (by omega)]
 |loop b ih=>intro st Q h;exact h
 |exit id=>intro st Q h;exact⟨.exit id,st,⟨1,fun n hn=>by obtain⟨m,rfl⟩: ∃m,n=m+1:=⟨n-1,by omega⟩;rfl⟩,h⟩
 |ret=>intro st Q h;exact⟨.ret,st,⟨1,fun n hn=>by obtain⟨m,rfl⟩: ∃m,n=m+1:=⟨n-1,by omega⟩;rfl⟩,h⟩
 |rangeF g ps a b=>
  intro st Q h;simp only[Wp]at h
  split at h
  ·rename_i f x y hg;rcases h with h|⟨v,en',cnt',⟨n1,h1⟩,hk⟩
   case inr=>
    refine⟨_,_,⟨n1+1,fun n hn=>?_⟩,hk⟩
    obtain⟨m,rfl⟩: ∃m,n=m+1:=⟨n-1,by omega⟩
    have hi:=h1 m (by omega) st.fr
    simp only[kO]at hi;simp only[exec,hg,oB,kO,aI9 hi,hi]
   obtain⟨v,en',cnt',⟨n1,h1⟩,hk⟩:=h;have run: ∀n,n1+1<=n-> ∀r,(match en' (kO st.cnt)with
     |some (.loop _ _ _ _ .ready)=>some (Ex.normal,{fr:=st.fr,en:=en'.set (kO st.cnt) none,cnt:=cnt':St})
     |some (.loop _ _ _ _ (.done e))=>some (e,{fr:=st.fr,en:=en'.set (kO st.cnt) none,cnt:=cnt'})
     |_=>none)=some r->exec L n (.rangeF g ps a b) st=some r:=by
    intro n hn r hr;obtain⟨m,rfl⟩: ∃m,n=m+1:=⟨n-1,by omega⟩
    have hi:=h1 m (by omega) st.fr
    simp only[Inl.call,fE]at hi;simp only[exec,hg,oB];simp only[kO]at hi hr;rw[hi];exact hr
   split at hk
   ·rename_i hl;exact⟨_,_,⟨n1+1,fun n hn=>run n hn _ (by simp only[hl])⟩,hk⟩
   ·rename_i hl;exact⟨_,_,⟨n1+1,fun n hn=>run n hn _ (by simp only[hl])⟩,hk⟩
   ·exact hk.elim
  ·exact h.elim
 |rcv d l b=>intro st Q h;exact h.elim
 |opsP l=>
  intro st Q h;rcases h with h|⟨k,o,hk,h⟩
  ·obtain⟨st',⟨n0,h0⟩,hq⟩:=aBn l h
   refine⟨.normal,st',⟨n0+1,fun n hn=>?_⟩,hq⟩
   obtain⟨m,rfl⟩: ∃m,n=m+1:=⟨n-1,by omega⟩
   rw[exec];exact aW5 l (h0 m (by omega))
  ·obtain⟨st1,⟨n0,h0⟩,hp⟩:=aBn _ h;obtain⟨v,st2,⟨n1,h1⟩,hq⟩:=aBm hp
   refine⟨.panic v,st2,⟨max n0 n1+1,fun n hn=>?_⟩,hq⟩
   obtain⟨m,rfl⟩: ∃m,n=m+1:=⟨n-1,by omega⟩
   rw[exec];exact(aFi l hk (h0 m (by omega)) (h1 m (by omega))).1
 |drawP l an pairs=>
  intro st Q h;rcases h with h|⟨j,o,hj,h1,h2⟩
  ·obtain⟨st',rs,⟨n0,h0⟩,hp,hq⟩:=aKs l h
   refine⟨.normal,st',⟨n0+1,fun n hn=>?_⟩,hq⟩
   obtain⟨m,rfl⟩: ∃m,n=m+1:=⟨n-1,by omega⟩
   have hr:=h0 m (by omega)
   simp only[lX]at hr;simp only[exec,uV l hr,hr,hp,if_true]
  ·obtain⟨s,⟨n0,h0⟩,hp0⟩:=aBn _ h1;obtain⟨v0,s2,⟨n1,hn1⟩,_⟩:=aBm hp0;obtain⟨st1,rs,⟨n2,hn2⟩,hc,hp⟩:=aKs _ h2;obtain⟨v,st2,⟨n3,hn3⟩,hq⟩:=aBm hp
   refine⟨_,_,⟨max (max n0 n1) (max n2 n3)+1,fun n hn=>?_⟩,hq⟩
   obtain⟨m,rfl⟩: ∃m,n=m+1:=⟨n-1,by omega⟩
   have hf:=(aFi l hj (h0 m (by omega)) (hn1 m (by omega))).2 0
   rw[bQh]at hf;have hr:=hn2 m (by omega)
   simp only[lX]at hr;have hoj:l.getD j default=o:=by simp[bPu,hj]
   simp only[exec,hf,wK,hr,hc,if_true,hoj,hn3 m (by omega)]
 |drawL l an pairs A=>
  intro st Q h;rcases h with h|⟨j,o,hj,h1,h2⟩
  ·obtain⟨st',rs,⟨n0,h0⟩,hp,hq⟩:=aKs _ h
   refine⟨.normal,st',⟨n0+1,fun n hn=>?_⟩,hq⟩
   obtain⟨m,rfl⟩: ∃m,n=m+1:=⟨n-1,by omega⟩
   have hr:=h0 m (by omega)
   simp only[lX]at hr;rw[exec];unfold yE;simp only[uV _ hr,hr,hp,if_true]
  ·obtain⟨s,⟨n0,h0⟩,hp0⟩:=aBn _ h1;obtain⟨v0,s2,⟨n1,hn1⟩,_⟩:=aBm hp0;obtain⟨st1,rs,⟨n2,hn2⟩,hc,hp⟩:=aKs _ h2;obtain⟨v,st2,⟨n3,hn3⟩,hq⟩:=aBm hp
   refine⟨_,_,⟨max (max n0 n1) (max n2 n3)+1,fun n hn=>?_⟩,hq⟩
   obtain⟨m,rfl⟩: ∃m,n=m+1:=⟨n-1,by omega⟩
   have hf:=(aFi _ hj (h0 m (by omega)) (hn1 m (by omega))).2 0
   rw[bQh]at hf;have hr:=hn2 m (by omega)
   simp only[lX]at hr;have hoj:(jJ A (iP st (l.getD A default)) l).getD j default=o:=by rw[bPu,hj];rfl
   rw[exec];unfold yE;simp only[hf,hr,hc,if_true,hoj,hn3 m (by omega)]
 |dfr ts l f args b ih=>
  intro st Q h;obtain⟨st2,⟨n0,h0⟩,hb⟩:=aBn l h;obtain⟨e,st3,⟨n1,h1⟩,hts,st4,⟨n2,h2⟩,hq⟩:=ih hb
  refine⟨.ret,st4,⟨max n0 (max n1 n2)+1,fun n hn=>?_⟩,hq⟩
  obtain⟨m,rfl⟩: ∃m,n=m+1:=⟨n-1,by omega⟩
  have hr:=h0 m (by omega)
  simp only[lX]at hr;simp only[exec,hr,h1 m (by omega),hts,bPs,if_false,h2 m (by omega),bQi]
theorem wp_loop {L:bH}{b:aZ}{Q:Ex->St->Prop}(I:α->St->Prop)(μ:α->Nat)(x:α)(h0:I x st)
  (hr: ∀x st,I x st->Wp L b st fun e st'=>match e with
   | .normal=> ∃y,I y st'/\ μ y<μ x
   | .exit i=>Q (.exit i) st'
   | .ret=>Q .ret st'
   | .panic v=>Q (.panic v) st'):Wp L (.loop b) st Q:=by
 have key: ∀m x st,μ x=m->I x st-> ∃e st',Ev L (.loop b) st e st'/\ Q e st':=by
  intro m
  induction m using Nat.strongRecOn with
  |_ m ih=>
   intro x st hm hI;obtain⟨e,st1,⟨n1,h1⟩,hk⟩:=aFj b (hr x st hI);cases e with
   |normal=>
    obtain⟨y,hy,hlt⟩:=hk;obtain⟨e2,st2,⟨n2,h2⟩,hq⟩:=ih (μ y) (hm▸hlt) y st1 rfl hy
    refine⟨e2,st2,⟨max n1 n2+1,fun n hn=>?_⟩,hq⟩
    obtain⟨m',rfl⟩: ∃m,n=m+1:=⟨n-1,by omega⟩
    simp only[exec,h1 m' (by omega),h2 m' (by omega)]
   |exit id=>
    refine⟨_,st1,⟨n1+1,fun n hn=>?_⟩,hk⟩
    obtain⟨m',rfl⟩: ∃m,n=m+1:=⟨n-1,by omega⟩
    simp only[exec,h1 m' (by omega)]
   |ret=>
    refine⟨_,st1,⟨n1+1,fun n hn=>?_⟩,hk⟩
    obtain⟨m',rfl⟩: ∃m,n=m+1:=⟨n-1,by omega⟩
    simp only[exec,h1 m' (by omega)]
   |panic v=>
    refine⟨_,st1,⟨n1+1,fun n hn=>?_⟩,hk⟩
    obtain⟨m',rfl⟩: ∃m,n=m+1:=⟨n-1,by omega⟩
    simp only[exec,h1 m' (by omega)]
 exact key _ x st rfl h0
theorem wp_mono {L:bH}(c:aZ): ∀{st:St} {Q R:Ex->St->Prop},Wp L c st Q->(∀e st',Q e st'->R e st')->Wp L c st R:=by
 have stp: ∀{st:St} {o:aN} {K K':St->Res->Prop},oT L st o K->(∀s r,K s r->K' s r)->oT L st o K':=by
  intro st o K K' h hk;unfold oT at h⊢;split
  ·rename_i hw;simp only[hw]at h;split
   ·rename_i f args hop;simp only[hop]at h;exact h.mono fun _ _ _=>hk _ _
   ·rename_i op hne;have h':WOp L (o.dst.getD 0) (st.cnt 0 (o.dst.getD 0)) st.en (St.get st.fr) o.op fun r=>(r.bump&&o.dst.isNone)=false/\
      K ⟨iI st.fr o.dst r.v,W.applyAll st.en r.ws,if r.bump then aC st.cnt 0 (o.dst.getD 0) (st.cnt 0 (o.dst.getD 0)+1)else st.cnt⟩ r:=by
     split at h
     ·rename_i f a hx;exact absurd hx (hne f a)
     ·exact h
    have oth: ∀{K K':Res->Prop},(∀r,K r->K' r)->(match dE (o.dst.getD 0) (st.cnt 0 (o.dst.getD 0)) st.en (St.get st.fr) o.op with|some r=>K r|none=>False)->
      (match dE (o.dst.getD 0) (st.cnt 0 (o.dst.getD 0)) st.en (St.get st.fr) o.op with|some r=>K' r|none=>False):=by
     intro K K' hk h;split<;>rename_i hr<;>simp only[hr]at h;exact hk _ h
    have mono: ∀{K K':Res->Prop},(∀r,K r->K' r)->WOp L (o.dst.getD 0) (st.cnt 0 (o.dst.getD 0)) st.en (St.get st.fr) o.op K->WOp L (o.dst.getD 0) (st.cnt 0 (o.dst.getD 0)) st.en (St.get st.fr) o.op K':=by
     intro K K' hk h;generalize hop:o.op=op at h⊢oth;cases op with
     |call f args=>
      simp only[WOp]at h⊢
      split at h
      ·split at h
       ·obtain⟨r,h1,h2⟩:=h;exact⟨r,h1,hk _ h2⟩
       ·exact h.elim
      ·exact h.elim
     |_=>exact oth hk h
    exact mono (fun r ⟨h1,h2⟩=>⟨h1,hk _ _ h2⟩) h'
  ·rename_i hw;simp only[hw]at h;exact hk _ _ h
  ·rename_i hw;simp only[hw]at h
 have ops: ∀(l:List aN) {st:St} {Q R:St->Prop},jE L l st Q->(∀s,Q s->R s)->jE L l st R:=by
  intro l
  induction l with
  |nil=>intro st Q R h k;exact k _ h
  |cons o l ih=>intro st Q R h k;exact stp h fun s r hs=>ih hs k
 have rec_: ∀(l:List aN) {st:St} {Q R:St->List Res->Prop},sH L l st Q->(∀s rs,Q s rs->R s rs)->sH L l st R:=by
  intro l
  induction l with
  |nil=>intro st Q R h k;exact k _ _ h
  |cons o l ih=>intro st Q R h k;exact stp h fun s r hs=>ih hs fun s rs hq=>k _ _ hq
 induction c with
 |skip=>intro st Q R h k;exact k _ _ h
 |ops l=>intro st Q R h k;exact ops l h fun s=>k _ s
 |draw l pairs=>
  intro st Q R h k;simp only[Wp]at h⊢
  split at h
  ·rename_i hp;rw[if_pos hp];exact ops l h fun s=>k _ s
  ·rename_i hp;rw[if_neg hp];exact rec_ l h fun s rs ⟨h1,h2⟩=>⟨h1,k _ _ h2⟩
 |seq a b iha ihb=>
  intro st Q R h k
  refine iha h fun e st' hq=>?_
  cases e with
  |normal=>exact ihb hq k
  |exit i=>exact k _ _ hq
  |ret=>exact k _ _ hq
  |panic v=>exact k _ _ hq
 |cond x a b iha ihb=>
  intro st Q R h k;simp only[Wp]at h⊢
  split at h
  ·rename_i t ht
   split at h
   ·rename_i htt;rw[if_pos htt];exact iha h k
   ·rename_i htt;rw[if_neg htt];exact ihb h k
  ·exact h.elim
 |block id b ih=>
  intro st Q R h k
  refine ih h fun e st' hq=>?_
  cases e with
  |normal=>exact k _ _ hq
  |exit i=>
   simp only at hq⊢
   split at hq
   ·rename_i hi;rw[if_pos hi];exact k _ _ hq
   ·rename_i hi;rw[if_neg hi];exact k _ _ hq
  |ret=>exact k _ _ hq
  |panic v=>exact k _ _ hq
 |loop b ih=>intro st Q R h k;obtain⟨e,st',h1,h2⟩:=h;exact⟨e,st',h1,k _ _ h2⟩
 |exit id=>intro st Q R h k;exact k _ _ h
 |ret=>intro st Q R h k;exact k _ _ h
 |rangeF g ps a b=>
  intro st Q R h k;simp only[Wp]at h⊢
  split at h
  ·rcases h with h|h
   ·refine .inl (h.mono fun v en' cnt' hq=>?_)
    split at hq
    ·exact k _ _ hq
    ·exact k _ _ hq
    ·exact hq.elim
   ·exact .inr (h.mono fun v en' cnt' hq=>k _ _ hq)
  ·exact h.elim
 |rcv d l b=>intro st Q R h k;exact h.elim
 |opsP l=>
  intro st Q R h k;rcases h with h|⟨j,o,hj,h⟩
  ·exact .inl (ops l h fun s=>k _ s)
  ·exact .inr ⟨j,o,hj,ops _ h fun s hs=>uX hs fun v s2=>k _ s2⟩
 |drawP l an pairs=>
  intro st Q R h k;rcases h with h|⟨j,o,hj,h1,h2⟩
  ·exact .inl (rec_ l h fun s rs ⟨h1,h2⟩=>⟨h1,k _ _ h2⟩)
  ·exact .inr ⟨j,o,hj,h1,rec_ _ h2 fun s rs ⟨q1,q2⟩=>⟨q1,uX q2 fun v s2=>k _ _⟩⟩
 |drawL l an pairs A=>
  intro st Q R h k;rcases h with h|⟨j,o,hj,h1,h2⟩
  ·exact .inl (rec_ _ h fun s rs ⟨h1,h2⟩=>⟨h1,k _ _ h2⟩)
  ·exact .inr ⟨j,o,hj,h1,rec_ _ h2 fun s rs ⟨q1,q2⟩=>⟨q1,uX q2 fun v s2=>k _ _⟩⟩
 |dfr ts l f args b ih=>
  intro st Q R h k;exact ops l h fun st2 hb=>ih hb fun e st3 ⟨h1,st4,h2,h3⟩=>⟨h1,st4,h2,k _ _ h3⟩
theorem bG9 {L:bH}{a b:aZ}{Q:Ex->St->Prop}(M:St->Prop)
  (h:Wp L a st fun e st'=>match e with| .normal=>M st'| .exit i=>Q (.exit i) st'| .ret=>Q .ret st'| .panic v=>Q (.panic v) st') (k: ∀st',M st'->Wp L b st' Q):Wp L (.seq a b) st Q:=by
 refine wp_mono a h fun e st' hq=>?_
 cases e with
 |normal=>exact k _ hq
 |exit i=>exact hq
 |ret=>exact hq
 |panic v=>exact hq
def bD2 (st:St)(lf:iW)(r:Val):Prop:=
 match cT (qD st) lf.res with
 |some vs=>match(if lf.keep then aWu st.en (aA7 vs)else none)with
  |some v=>v=r
  |none=>match snapD 8 st.en (aA7 vs)with
   |some (v,_)=>(if lf.keep then v else v.wk)=r
   |none=>False
 |none=>False
def bHa (L:bH)(lf:iW)(args:List Val)(r:Val):Prop:= ∃n0,∀n,n0<=n->jD lf 8 (exec L n) args=some r
theorem qM {L:bH}(h:Wp L lf.body (start args) fun e st=>e.ends=true/\ bD2 st lf r):bHa L lf args r:=by
 obtain⟨e,st,⟨n1,h1⟩,he,h2⟩:=aFj _ h
 refine⟨n1,fun n hm=>?_⟩
 simp only[jD,h1 n (by omega),he,if_true,aEz]
 unfold bD2 at h2
 split at h2
 ·rename_i vs hvs;simp only[hvs]
  split at h2
  ·rename_i v hv;rw[hv,h2]
  ·rename_i hv;rw[hv]
   split at h2
   ·rename_i v ks hs;simp only[uW _ _ _ _ hs 8 (bPq _),h2]
   ·exact h2.elim
 ·exact h2.elim
theorem aI {L:bH}(hL:L f=some lf)(hn:args.length=lf.np)(ha:yD lf args=false)
  (h:Wp L lf.body (start args) fun e st=>e.ends=true/\ bD2 st lf r):PC L f args r:=by
 obtain⟨n1,h1⟩:=qM h
 refine⟨n1,fun n hm=>?_⟩
 simp only[lX,bL,hL,hn,if_true,ha,bPs,if_false,h1 n (by omega)]
theorem bD3 {a b:Option Val}(ha:a=some r)(hb:b=some r)(hr:r= .cl [] \/r= .fz []):kI a b=some r:=by
 rcases hr with rfl|rfl<;>simp[ha,hb,kI]
theorem aKt {L:bH}(hL:L f=some lf)(hn:args.length=lf.np)(ha:yD lf args=true)(hr:r= .cl [] \/r= .fz [])(h1:bHa L lf [.es true] r)(h2:bHa L lf [.es false] r):PC L f args r:=by
 obtain⟨n1,h1⟩:=h1;obtain⟨n2,h2⟩:=h2
 refine⟨max n1 n2,fun n hm=>?_⟩
 simp only[lX,bL,hL,hn,if_true,ha];exact bD3 (h1 n (by omega)) (h2 n (by omega)) hr
theorem bD {L:bH}{b:List Val}(hL:L f=some lf)(hn:(a++args++b).length=lf.np)(ha:yD lf (a++args++b)=false)
  (h:Wp L lf.body ⟨fun i=>(a++args++b).getD i (.tup []),en,cnt⟩ fun e st=>e.ends=true/\ match cT (qD st) lf.res with|some vs=>Q (aA7 vs) st.en st.cnt|none=>False) (hz:lf.nrm=[]:=by rfl):WIn L (.fn f a b) args en cnt Q:=by
 obtain⟨e,st,⟨n1,h1⟩,he,h2⟩:=aFj _ h
 split at h2
 ·rename_i vs hvs
  refine⟨_,_,_,⟨n1,fun n hm fr=>?_⟩,h2⟩
  simp only[Inl.call,fE,aA9,lD,hL,hn,if_true,ha,bPs,if_false,h1 n hm,he,hvs,Option.map,hz,norms]
 ·exact h2.elim
def cQ (en:En):Val->Option (Val×List Key)
 | .ptr k off=>some (.ptr k off,[])
 |v=>match snapD 8 en v with
  |some r=>some (r.1.wk0,r.2)
  |none=>none
def uY (en:En)(k:Key):Option En:=
 match en k with
 |some (.box cs false)=>match cT (cQ en) cs with
  |some rs=>if(rs.flatMap (·.2)).contains k then none else some ((W.applyAll en ((rs.flatMap (·.2)).map .frz)).set k (some (.box (rs.map (·.1)) false)))
  |none=>none
 |_=>none
def oP (x:Val):List (List Nat)->En->Option En
 |[],en=>some en
 |p::ps,en=>match aRl en p x with
  |some k=>match uY en k with
   |some en'=>oP x ps en'
   |none=>none
  |none=>none
theorem aP1 {r:Val×List Key}(h:cQ en v=some r):aE2 en v=some r:=by
 cases v<;>simp only[cQ,aE2]at h⊢ <;>first
  |exact h
  |(split at h
    case h_2=>cases h
    rename_i r' hr;rw[uW en 8 _ _ hr 8 (bPq _)];exact h)
variable {en':En}
theorem aSi {k:Key}(h:uY en k=some en'):aE3 en k=some en':=by
 unfold uY at h;unfold aE3
 split at h
 ·rename_i cs hk;simp only[hk]
  split at h
  ·rename_i rs hrs;simp only[aBl (fun x y hx=>aP1 hx) hrs];exact h
  ·cases h
 ·cases h
theorem aN7 {x:Val}: ∀{ps:List (List Nat)} {en en':En},oP x ps en=some en'->norms x ps en=some en'
 |[],_,_,h=>h
 |p::ps,en,en',h=>by
  simp only[oP]at h;simp only[norms]
  split at h
  case h_2=>cases h
  rename_i k hk
  split at h
  case h_2=>cases h
  rename_i e1 h1;simp only[hk,aSi h1];exact aN7 h
theorem rZ {L:bH}{b:List Val}(hL:L f=some lf)(hn:(a++args++b).length=lf.np)(ha:yD lf (a++args++b)=false)
  (h:Wp L lf.body ⟨fun i=>(a++args++b).getD i (.tup []),en,cnt⟩ fun e st=>e.ends=true/\ match cT (qD st) lf.res with|some vs=>(match oP ((a++args++b).getD 0 .dead) lf.nrm st.en with|some en'=>Q (aA7 vs) en' st.cnt|none=>False)|none=>False):WIn L (.fn f a b) args en cnt Q:=by
 obtain⟨e,st,⟨n1,h1⟩,he,h2⟩:=aFj _ h
 split at h2
 ·rename_i vs hvs
  split at h2
  ·rename_i en' hen
   refine⟨_,_,_,⟨n1,fun n hm fr=>?_⟩,h2⟩
   simp only[Inl.call,fE,aA9,lD,hL,hn,if_true,ha,bPs,if_false,h1 n hm,he,hvs,Option.map,aN7 hen]
  ·exact h2.elim
 ·exact h2.elim
variable {fr:Nat->Val}
theorem aP2 {L:bH}{k:Key}{a b:aZ}
  (hk:en k=some (.loop fr ps a b .ready)) (hn:args.length=ps.length)
  (h:Wp L a ⟨aA8 fr ps args,en,cnt⟩ fun e st=>e= .normal/\ match st.en k with
   |some (.loop fr1 ps1 a1 b1 .ready)=>Wp L b ⟨st.fr,st.en.set k (some (.loop fr1 ps1 a1 b1 .busy)),st.cnt⟩ fun e st=>match st.en k with
    |some (.loop fr2 ps2 a2 b2 .busy)=>e.calm=true/\ Q (.bool (decide (e= .normal))) (st.en.set k (some (.loop fr2 ps2 a2 b2 (if e= .normal then .ready else .done e)))) st.cnt
    |_=>False
   |_=>False):WIn L (.yld k) args en cnt Q:=by
 obtain⟨e,st,⟨n1,h1⟩,rfl,h2⟩:=aFj _ h
 split at h2
 ·rename_i fr1 ps1 a1 b1 hk1;obtain⟨e2,st2,⟨n2,h3⟩,h4⟩:=aFj _ h2
  split at h4
  ·rename_i hk2
   refine⟨_,_,_,⟨max n1 n2,fun n hm fr'=>?_⟩,h4.2⟩
   simp only[Inl.call,fE,aE0,hk,hn,if_true,h1 n (by omega),hk1,h3 n (by omega),hk2,h4.1]
  ·exact h4.elim
 ·exact h2.elim
theorem aIg {L:bH}(hL:L f=some lf)(hn:args.length=lf.np)(ha:yD lf args=false)
  (h:Wp L lf.body (start args) fun e st=>e= .panic v):PX L f args v:=by
 obtain⟨e,st,⟨n1,h1⟩,he⟩:=aFj _ h;subst he;exact⟨n1,fun n hm=>by simp only[bGm,cO,hL,hn,ha,true_and,if_true,h1 n hm,and_self]⟩
theorem cC {L:bH}(hL:L f=some lf)(hn:args.length=lf.np)(ha:yD lf args=false)
  (h:Wp L lf.body ⟨fun i=>args.getD i (.tup []),en,cnt⟩ fun e st=>match e with| .panic v=>Q v st.en st.cnt|_=>False):xQ L f args en cnt Q:=by
 obtain⟨e,st,⟨n1,h1⟩,he⟩:=aFj _ h;cases e with
 |panic v=>exact⟨v,st.en,st.cnt,⟨n1,fun n hm fr=>by simp only[eG,hL,hn,ha,true_and,if_true,h1 n hm,and_self]⟩,he⟩
 |_=>exact he.elim
variable {dst:Option Nat}
theorem tX {L:bH}{b:List Val}{c:aZ}{e:Ex}{st3:St}{K:St->Prop}(hL:L g=some lf)(hb:lf.body= .rcv dst l c)(hv:e.rcvd=some v)(hn:(a++args++b).length=lf.np)(hr:lf.res=[])
  (h:jE L l ⟨iI (fun i=>(a++args++b).getD i (.tup [])) dst v,st3.en,st3.cnt⟩ fun st1=>Wp L c st1 fun e' st'=>e'.ends=true/\ K ⟨st3.fr,st'.en,st'.cnt⟩):
  ∃st4,(∃n0,∀n,n0<=n->iK L (exec L n) (.fn g a b) args e st3=some st4)/\ K st4:=by
 obtain⟨st1,⟨n0,h0⟩,h1⟩:=aBn l h;obtain⟨e',st',⟨n1,h2⟩,he,hk⟩:=aFj c h1
 refine⟨_,⟨max n0 n1,fun n hm=>?_⟩,hk⟩
 have hr':=h0 n (by omega)
 simp only[lX]at hr';simp only[iK,hL,hb,hv,hn,hr,List.isEmpty_nil,and_self,if_true,hr',h2 n (by omega),he]
theorem bHb {L:bH}{n:Nat}(h:lX L n f args=some r):PC L f args r:=⟨n,fun _ hm=>aBk hm h⟩
variable {e:Option Ent}{k':Key}{g' n' t t' off size id:Nat}{u:Key->Bool}{ws:List W}{r':Option Res}{c:Opd}{z a' xs vs ys:List Val}{b b' ok:Bool}{no yes:Prop}{v' f':Val}{K:Val->Prop}{o':Option (List (Val×List Key))}{ks:List Key}{k:IntKind}{s:ByteArray}
section
variable {L :bH}{Q:St->Prop}
@[go_sem] theorem g_t {i:Nat}:St.get fr (.t i)=fr i:=(rfl)
@[go_sem] theorem g_c :St.get fr (.c v)=v:=(rfl)
@[go_sem] theorem g_f {i:Nat}:St.get fr (.f i)= .fn i [] []:=(rfl)
@[go_sem] theorem bOg :jN fr d v d=v:=by simp[jN]
@[go_sem] theorem bOh {i:Nat}(h: ¬i=d):jN fr d v i=fr i:=by simp[jN,h]
@[go_sem] theorem bJa :iI fr (some d) v=jN fr d v:=(rfl)
@[go_sem] theorem bJb :iI fr none v=fr:=(rfl)
@[go_sem] theorem cG {k:Key}:En.set en k e k=e:=by simp[En.set]
theorem iZ {k:Key}(h:k'≠k):En.set en k e k'=en k':=by simp[En.set,h]
@[go_sem] theorem bKp {n:Nat}(h: ¬t'=t):En.set en ⟨n,t,g⟩ e ⟨n',t',g'⟩=en ⟨n',t',g'⟩:=
 iZ fun he=>h (by injection he)
@[go_sem] theorem aW6 {n:Nat}(h: ¬g'=g):En.set en ⟨n,t,g⟩ e ⟨n',t',g'⟩=en ⟨n',t',g'⟩:=
 iZ fun he=>h (by injection he)
@[go_sem] theorem bA8 {n x:Nat}:aC cnt n t x n t=x:=by simp[aC]
@[go_sem] theorem bA9 {n x:Nat}(h: ¬t'=t):aC cnt n t x n t'=cnt n t':=by simp[aC,h]
@[go_sem] theorem bOi (st:St):jE L [] st Q=Q st:=(rfl)
def LOp.plain :LOp->Bool
 | .call _ _| .icall _ _=>false
 |_=>true
def aNa (L:bH)(l:List aN)(dst:Option Nat)(fr:Nat->Val)(en:En)(cnt:Nat->Nat->Nat)(Q:St->Prop):Option Res->Prop
 |some r=>(r.bump&&dst.isNone)=false/\ jE L l ⟨iI fr dst r.v,W.applyAll en r.ws,if r.bump then aC cnt 0 (dst.getD 0) (cnt 0 (dst.getD 0)+1)else cnt⟩ Q
 |none=>False
@[go_sem] theorem aN8 {rs:List R}{m:Option (En×(Nat->Nat->Nat))}:
  aNa L l dst fr en cnt Q (some ⟨v,ws,rs,false,m,u⟩)=jE L l ⟨iI fr dst v,W.applyAll en ws,cnt⟩ Q:=by simp[aNa]
@[go_sem] theorem aHh {rs:List R}{m:Option (En×(Nat->Nat->Nat))}:
  aNa L l (some d) fr en cnt Q (some ⟨v,ws,rs,true,m,u⟩)=jE L l ⟨jN fr d v,W.applyAll en ws,aC cnt 0 d (cnt 0 d+1)⟩ Q:=by simp[aNa,iI]
@[congr] theorem bHc {r:Option Res}(h:r=r'):aNa L l dst fr en cnt Q r=aNa L l dst fr en cnt Q r':=by rw[h]
theorem aSj (h:op.plain=true):jE L (⟨dst,op,none⟩::l) ⟨fr,en,cnt⟩ Q=
  aNa L l dst fr en cnt Q (dE (dst.getD 0) (cnt 0 (dst.getD 0)) en (St.get fr) op):=by
 cases op<;>first|(simp[LOp.plain]at h;done)|rfl|(simp only[jE,oT,wanted,WOp];rfl)
@[go_sem] theorem bMg (h:op.plain=true):jE L (⟨some d,op,none⟩::l) ⟨fr,en,cnt⟩ Q=
  aNa L l (some d) fr en cnt Q (dE d (cnt 0 d) en (St.get fr) op):=aSj h
@[go_sem] theorem bMh (h:op.plain=true):jE L (⟨none,op,none⟩::l) ⟨fr,en,cnt⟩ Q=
  aNa L l none fr en cnt Q (dE 0 (cnt 0 0) en (St.get fr) op):=aSj h
@[go_sem] theorem bOj {x:Opd}:LOp.plain (.mv x)=true:=(rfl)
@[go_sem] theorem bKq {a b:Opd}:LOp.plain (.pick a b c)=true:=(rfl)
@[go_sem] theorem bJc :LOp.plain (.alloc z)=true:=(rfl)
@[go_sem] theorem bMi {n:Nat}{x:Opd}:LOp.plain (.box n x)=true:=(rfl)
@[go_sem] theorem bJd {p:List (Nat×Nat×Opd)}:LOp.plain (.build z p)=true:=(rfl)
@[go_sem] theorem bIg {a b:Nat}{p:List (Nat×Opd)}:LOp.plain (.bslice a b z p)=true:=(rfl)
@[go_sem] theorem bKr {a:Bool}{n:Nat}{x:Opd}:LOp.plain (.load a n x)=true:=(rfl)
@[go_sem] theorem bJe {n:Nat}{x y:Opd}:LOp.plain (.store n x y)=true:=(rfl)
@[go_sem] theorem bJf {x:Opd}:LOp.plain (.nilck x)=true:=(rfl)
@[go_sem] theorem bMj {b:BinOp}{t:EqT}{x y:Opd}:LOp.plain (.bin b t x y)=true:=(rfl)
@[go_sem] theorem bOk {u:UnOp}{x:Opd}:LOp.plain (.un u x)=true:=(rfl)
@[go_sem] theorem bJg {x:Opd}:LOp.plain (.iface t x)=true:=(rfl)
@[go_sem] theorem bIh {z:Val}{x:Opd}:LOp.plain (.assert t z b x)=true:=(rfl)
@[go_sem] theorem bKs {a b:List Opd}:LOp.plain (.mkfn f a b)=true:=(rfl)
@[go_sem] theorem bJh  :LOp.plain (.mkmap)=true:=(rfl)
@[go_sem] theorem bKt {t:EqT}{a b:Opd}:LOp.plain (.mput t a b c)=true:=(rfl)
@[go_sem] theorem bKu {t:EqT}{z:Val}{x y:Opd}:LOp.plain (.mget t z b x y)=true:=(rfl)
@[go_sem] theorem bJi {n:Nat}{x y:Opd}:LOp.plain (.mklen n z x y)=true:=(rfl)
@[go_sem] theorem bJj {n:Nat}{x:Opd}{l h m:Option Opd}:LOp.plain (.slice b n x l h m)=true:=(rfl)
@[go_sem] theorem bOl {n:Nat}{x:Opd}:LOp.plain (.fa n x)=true:=(rfl)
@[go_sem] theorem bMk {n:Nat}{x:Opd}:LOp.plain (.fld b n m x)=true:=(rfl)
@[go_sem] theorem bOm {n:Nat}{x y:Opd}:LOp.plain (.ia n x y)=true:=(rfl)
@[go_sem] theorem bMl {x y:Opd}:LOp.plain (.ixs x y)=true:=(rfl)
@[go_sem] theorem bMm {n:Nat}{x y:Opd}:LOp.plain (.ixa b n m x y)=true:=(rfl)
@[go_sem] theorem bMn {n:Nat}{x:Opd}:LOp.plain (.ext n x)=true:=(rfl)
@[go_sem] theorem bMo {t:EqT}{x:Opd}:LOp.plain (.len t x)=true:=(rfl)
theorem bM {n:Nat}{x y:Opd}:LOp.plain (.append n x y)=true:=(rfl)
@[go_sem] theorem bIi {l:List Opd}:LOp.plain (.minmax b l)=true:=(rfl)
@[go_sem] theorem bMp {x:Opd}:LOp.plain (.rng x)=true:=(rfl)
@[go_sem] theorem bMq {x:Opd}:LOp.plain (.nxt x)=true:=(rfl)
def rQ (v:Val)(b:Bool)(yes no:Prop):Prop:=
 match v with
 | .bool b'=>if(b'==b)=true then yes else no
 | .tup []=>no
 |_=>False
@[congr] theorem bFm (h:v=v'):rQ v b yes no=rQ v' b yes no:=by rw[h]
@[go_sem] theorem bD4 :jE L (⟨dst,op,some (t,b)⟩::l) ⟨fr,en,cnt⟩ Q=
  rQ (fr t) b (jE L (⟨dst,op,none⟩::l) ⟨fr,en,cnt⟩ Q) (jE L l ⟨iI fr dst (.tup []),en,cnt⟩ Q):=by
 simp only[jE,oT,wanted,rQ]
 split<;>rename_i h
 ·split at h
  ·rename_i b' hb;simp only[bPo]at h;simp only[hb,h,if_true]
  ·cases h
  ·cases h
 ·split at h
  ·rename_i b' hb;simp only[bPo]at h;simp only[hb,h,bPs,if_false]
  ·rename_i hb;simp only[hb]
  ·cases h
 ·split at h
  ·cases h
  ·cases h
  ·rename_i h1 h2;split
   ·rename_i b' hb;exact absurd hb (h1 _)
   ·rename_i hb;exact absurd hb h2
   ·rfl
@[go_sem] theorem bJk :rQ (.bool true) true yes no=yes:=(rfl)
@[go_sem] theorem bJl :rQ (.bool false) false yes no=yes:=(rfl)
@[go_sem] theorem bJm :rQ (.bool true) false yes no=no:=(rfl)
@[go_sem] theorem bJn :rQ (.bool false) true yes no=no:=(rfl)
theorem bB (h:b=b'->yes)(k:b=!b'->no):rQ (.bool b) b' yes no:=by
 cases b<;>cases b'<;>first|exact h rfl|exact k rfl
@[congr] theorem bIj {f:Val}{K:Val->En->(Nat->Nat->Nat)->Prop}(h:f=f')(h':a=a'):WIn L f a en cnt K=WIn L f' a' en cnt K:=by rw[h,h']
@[go_sem] theorem bKv {f:Opd}{args:List Opd}:jE L (⟨dst,.icall f args,none⟩::l) ⟨fr,en,cnt⟩ Q=
  WIn L (St.get fr f) (args.map (St.get fr)) en cnt fun v en' cnt'=>jE L l ⟨iI fr dst v,en',cnt'⟩ Q:=(rfl)
def aSk (L:bH)(f:Nat)(args:List Val)(K:Val->Prop):Prop:= ∃r,PC L f args r/\ K r
@[congr] theorem bHd (h:a=a'):aSk L f a K=aSk L f a' K:=by rw[h]
theorem _root_.Go.Abs.PC.ret {L:bH}(h:PC L f args r):aSk L f args K=K r:=
 propext ⟨fun⟨s,h1,h2⟩=>h.det h1▸h2,fun h2=>⟨r,h,h2⟩⟩
def aIh (L:bH)(f:Nat)(o:Option (List (Val×List Key)))(K:Val->List Key->Prop):Prop:=
 match o with
 |some rs=>aSk L f (rs.map (·.1.wk1)) fun r=>K r (rs.flatMap (·.2))
 |none=>False
@[congr] theorem bFn {o:Option (List (Val×List Key))}{K:Val->List Key->Prop}(h:o=o'):aIh L f o K=aIh L f o' K:=by rw[h]
@[go_sem] theorem bOn {rs:List (Val×List Key)}{K:Val->List Key->Prop}:aIh L f (some rs) K=aSk L f (rs.map (·.1.wk1)) fun r=>K r (rs.flatMap (·.2)):=(rfl)
def aDp (L:bH)(en:En)(f:Val)(args:List Val)(K:Val->List Key->Prop):Prop:=
 match f with
 | .fn f a b=>aIh L f (cT (snapD 8 en) (a++args++b)) K
 |_=>False
@[congr] theorem bFo {f:Val}{K:Val->List Key->Prop}(h:f=f')(h':a=a'):aDp L en f a K=aDp L en f' a' K:=by rw[h,h']
@[go_sem] theorem bMr {f:Opd}{args:List Opd}:jE L (⟨dst,.call f args,none⟩::l) ⟨fr,en,cnt⟩ Q=
  aDp L en (St.get fr f) (args.map (St.get fr)) fun r ks=>aNa L l dst fr en cnt Q (some (iE 0 (dst.getD 0) (cnt 0 (dst.getD 0)) r ks)):=by
 simp only[jE,oT,wanted,WOp,aDp,aIh,aSk];cases St.get fr f<;>first|rfl|skip
@[go_sem] theorem bOo {b:List Val}{K:Val->List Key->Prop}:aDp L en (.fn f a b) args K=aIh L f (cT (snapD 8 en) (a++args++b)) K:=(rfl)
def qN :Val->Bool
 | .own _ _=>true
 |_=>false
@[go_sem] theorem bFp {sz:Nat}:iE me d g (.own sz xs) ks=
  {v:= .bl ⟨me,d,g⟩ 0 xs.length,ws:=(if xs.all Val.flat1 then []else ks.map .frz)++[.ent ⟨me,d,g⟩ (some (.blk sz xs false))],rs:=ks.map .val,bump:=true}:=(rfl)
@[go_sem] theorem bFq (h:qN v=false):iE me d g v ks={v,ws:=if v.flat then []else ks.map .frz,rs:=ks.map .val}:=by
 cases v<;>first|rfl|cases h
section
variable {i:Int}{x:ByteArray}
@[go_sem] theorem bMs :qN (.int k i)=false:=(rfl)
@[go_sem] theorem bKw :qN (.bool b)=false:=(rfl)
@[go_sem] theorem bMt :qN (.str x)=false:=(rfl)
@[go_sem] theorem bOp :qN (.fz xs)=false:=(rfl)
@[go_sem] theorem bOq :qN (.cl xs)=false:=(rfl)
@[go_sem] theorem bMu :qN (.agg xs)=false:=(rfl)
@[go_sem] theorem bMv :qN (.tup xs)=false:=(rfl)
@[go_sem] theorem bOr :qN (.fp xs m)=false:=(rfl)
@[go_sem] theorem bOs :qN (.fn m xs ys)=false:=(rfl)
@[go_sem] theorem bKx :qN .nili=false:=(rfl)
@[go_sem] theorem bMw :qN (.ifc m v)=false:=(rfl)
end
@[go_sem] theorem aFk {α β:Type}{f:α->Option β}:cT f []=some []:=(rfl)
@[go_sem] theorem aC1 {α β:Type}{f:α->Option β}{x:α}{xs:List α}:cT f (x::xs)=(match f x with|some y=>(match cT f xs with|some ys=>some (y::ys)|none=>none)|none=>none):=(rfl)
@[go_sem] theorem bIk {cs:List Val}:iX true cs=some (.agg cs):=(rfl)
@[go_sem] theorem bIl :iX false [v]=some v:=(rfl)
attribute [go_sem] o og on ong
def aKu (cs:List Val)(off:Nat):Option Val:=cs[off]?
@[go_sem] theorem bJo {cs:List Val}:aKu (v::cs) 0=some v:=(rfl)
@[go_sem] theorem bJp {cs:List Val}{n:Nat}:aKu (v::cs) (n+1)=aKu cs n:=(rfl)
section
@[go_sem] theorem bOt {x:Opd}:dE d g en get (.mv x)=some {v:=get x}:=(rfl)
def aP3 (c a b:Val):Option Res:=match c with| .bool t=>some {v:=if t then a else b}|_=>none
@[go_sem] theorem bKy {a b:Opd}:dE d g en get (.pick c a b)=aP3 (get c) (get a) (get b):=(rfl)
@[go_sem] theorem bMx {a b:Val}:aP3 (.bool true) a b=some {v:=a}:=(rfl)
@[go_sem] theorem bMy {a b:Val}:aP3 (.bool false) a b=some {v:=b}:=(rfl)
@[go_sem] theorem bMz {t a:Bool}:aP3 (.bool t) (.bool a) (.bool b)=some {v:= .bool (if t then a else b)}:=by cases t<;>rfl
@[go_sem] theorem bJq :dE d g en get (.alloc z)=some {v:= .ptr ⟨0,d,g⟩ 0,ws:=[.ent ⟨0,d,g⟩ (some (.box z false))],bump:=true}:=(rfl)
def aBo (d g m:Nat)(x:Val):Option Res:=if x.one=true/\ x.cells.length=m then some {v:= .ptr ⟨0,d,g⟩ 0,ws:=[.ent ⟨0,d,g⟩ (some (.box x.cells false))],bump:=true}else none
@[go_sem] theorem bM0 {x:Opd}:dE d g en get (.box m x)=aBo d g m (get x):=(rfl)
@[go_sem] theorem bKz {cs:List Val}(h:cs.length=m):aBo d g m (.agg cs)=some {v:= .ptr ⟨0,d,g⟩ 0,ws:=[.ent ⟨0,d,g⟩ (some (.box cs false))],bump:=true}:=by simp[aBo,Val.one,Val.cells,h]
@[go_sem] theorem bK0 {n:Int}:aBo d g 1 (.int k n)=some {v:= .ptr ⟨0,d,g⟩ 0,ws:=[.ent ⟨0,d,g⟩ (some (.box [.int k n] false))],bump:=true}:=by simp[aBo,Val.one,Val.cells]
@[go_sem] theorem bM1 {i:Nat}:aBo d g 1 (.fp xs i)=some {v:= .ptr ⟨0,d,g⟩ 0,ws:=[.ent ⟨0,d,g⟩ (some (.box [.fp xs i] false))],bump:=true}:=by simp[aBo,Val.one,Val.cells]
@[go_sem] theorem bM2 {b:List Val}:aBo d g 1 (.fn f a b)=some {v:= .ptr ⟨0,d,g⟩ 0,ws:=[.ent ⟨0,d,g⟩ (some (.box [.fn f a b] false))],bump:=true}:=by simp[aBo,Val.one,Val.cells]
@[go_sem] theorem bJr {ps:List (Nat×Nat×Opd)}:dE d g en get (.build z ps)=(sW z (ps.map fun p=>(p.1,p.2.1,get p.2.2))).map fun cs=>{v:= .agg cs}:=(rfl)
@[go_sem] theorem bK1 {agg:Bool}{a:Opd}:dE d g en get (.load agg m a)=(match sV en (get a) m with|some (cs,rs)=>(iX agg cs).map fun v=>{v,rs}|none=>none):=(rfl)
@[go_sem] theorem bM3 {op:BinOp}{t:EqT}{x y:Opd}:dE d g en get (.bin op t x y)=(dA op t (get x) (get y)).map fun v=>{v}:=(rfl)
def bBa (x:Val):Option Res:=match x with| .bool b=>some {v:= .bool !b}|_=>none
def bBb (x:Val):Option Res:=match x with| .int k a=>some {v:= .int k (k.wrap (0-a))}|_=>none
@[go_sem] theorem bM4 {x:Opd}:dE d g en get (.un .not x)=bBa (get x):=by
 simp only[dE,eval,bBa];cases get x<;>rfl
@[go_sem] theorem bM5 {x:Opd}:dE d g en get (.un .neg x)=bBb (get x):=by
 simp only[dE,eval,bBb];cases get x<;>rfl
@[go_sem] theorem bOu :bBa (.bool b)=some {v:= .bool !b}:=(rfl)
@[go_sem] theorem bOv {a:Int}:bBb (.int k a)=some {v:= .int k (k.wrap (0-a))}:=(rfl)
@[go_sem] theorem bJs {x:Opd}:dE d g en get (.iface t x)=if(get x).one=true then some {v:= .ifc t (get x)}else none:=(rfl)
def aKv (t:Nat)(z:Val)(ok:Bool)(x:Val):Option Res:=match x with
 | .ifc t' v=>if t'=t then some {v:=if ok then .tup [v,.bool true]else v}else if ok then some {v:= .tup [z,.bool false]}else none
 | .nili=>if ok then some {v:= .tup [z,.bool false]}else none
 |_=>none
@[go_sem] theorem bIm {z:Val}{x:Opd}:dE d g en get (.assert t z ok x)=aKv t z ok (get x):=(rfl)
@[go_sem] theorem bHe {z:Val}:aKv t z true (.ifc t' v)=some {v:=if t'=t then .tup [v,.bool true]else .tup [z,.bool false]}:=by
 simp only[aKv];split<;>simp
@[go_sem] theorem bK2 {a b:List Opd}:dE d g en get (.mkfn f a b)=some {v:= .fn f (a.map get) (b.map get)}:=(rfl)
@[go_sem] theorem bJt :dE d g en get .mkmap=some {v:= .mp ⟨0,d,g⟩,ws:=[.ent ⟨0,d,g⟩ (some (.map [] [] false))],bump:=true}:=(rfl)
def aSl (t:EqT)(en:En)(x:Val):Option Res:=match t with
  | .map=>match x with
   | .mp key=>match en key with
    |some (.map ks _ _)=>some {v:= .int .i64 ks.length,rs:=[.val key]}
    |_=>none
   | .fm ks _=>some {v:= .int .i64 ks.length}
   | .nilm=>some {v:= .int .i64 0}
   |_=>none
  | .str=>match x with
   | .str s=>some {v:= .int .i64 s.size}
   |_=>none
  | .slice=>(sD x).map fun m=>{v:= .int .i64 m}
  | .func=>match x with
   | .cl xs=>some {v:= .int .i64 xs.length}
   |_=>none
  |_=>none
@[go_sem] theorem bM6 {t:EqT}{x:Opd}:dE d g en get (.len t x)=aSl t en (get x):=(rfl)
@[go_sem] theorem bOw {x:Val}:aSl .slice en x=(sD x).map fun(m:Nat)=>{v:= .int .i64 (m:Int)}:=by simp only[aSl];cases sD x<;>rfl
@[go_sem] theorem bK3 :aSl .str en (.str s)=some {v:= .int .i64 s.size}:=(rfl)
@[go_sem] theorem bJu :sD (.fz xs)=some xs.length:=(rfl)
@[go_sem] theorem bJv :sD (.cl xs)=some xs.length:=(rfl)
@[go_sem] theorem bJw {k:Key}{o n:Nat}:sD (.bl k o n)=some n:=(rfl)
def bFr (i:Nat)(x:Val):Option Res:=match x with| .tup vs=>(vs[i]?).map fun v=>{v}|_=>none
@[go_sem] theorem bM7 {i:Nat}{x:Opd}:dE d g en get (.ext i x)=bFr i (get x):=(rfl)
@[go_sem] theorem bK4 {i:Nat}:bFr i (.tup vs)=(aKu vs i).map fun v=>{v}:=(rfl)
def bD5 (off:Nat)(x:Val):Option Res:=match x with
  | .fp cs o=>some {v:= .fp cs (o+off)}
  | .ptr k o=>some {v:= .ptr k (o+off)}
  | .ep k i o=>some {v:= .ep k i (o+off)}
  |_=>none
@[go_sem] theorem bOx {x:Opd}:dE d g en get (.fa off x)=bD5 off (get x):=(rfl)
@[go_sem] theorem bOy {o:Nat}{cs:List Val}:bD5 off (.fp cs o)=some {v:= .fp cs (o+off)}:=(rfl)
@[go_sem] theorem bM8 {o:Nat}{k:Key}:bD5 off (.ptr k o)=some {v:= .ptr k (o+off)}:=(rfl)
@[go_sem] theorem bOz {o i:Nat}{k:Key}:bD5 off (.ep k i o)=some {v:= .ep k i (o+off)}:=(rfl)
def oU (size:Nat)(en:En)(x i:Val):Option Res:=match i with
  | .int _ j=>
   match x with
   | .fz xs| .cl xs=>if 0<=j then match xs[j.toNat]? with
     |some y=>if y.cells.length=size then some {v:= .fp y.cells 0}else none
     |none=>none else none
   | .bl k off len=>match en k with
    |some (.blk sz _ _)=>if 0<=j/\ j<len/\ sz=size then some {v:= .ep k (off+j.toNat) 0,rs:=[.val k]}else none
    |_=>none
   |_=>none
  |_=>none
@[go_sem] theorem bO0 {x i:Opd}:dE d g en get (.ia size x i)=oU size en (get x) (get i):=by
 simp only[dE,eval,oU];cases get i<;>rfl
theorem bJx {y:Val}(h:xs[j]?=some y)(hs:y.cells.length=size):oU size en (.fz xs) (.int k j)=some {v:= .fp y.cells 0}:=by
 simp[oU,h,hs]
@[go_sem] theorem aVq {α:Type}{f:α->Val}{l:List α}(h:j<l.length)(hs:((f l[j]).cells.length==size)=true):oU size en (.fz (l.map f)) (.int k j)=some {v:= .fp (f l[j]).cells 0}:=
 bJx (by simp[h]) (by simpa using hs)
@[go_sem] theorem bIn {len:Nat}{ps:List (Nat×Opd)}:dE d g en get (.bslice len size z ps)=
  if len*size<=16777216 then
   match cT (fun p=>match snapD 8 en (get p.2)with|some r=>some ((p.1,r.1.wk1),r.2)|none=>none) ps with
   |some ps=>match eE (List.replicate len (kE size z false)) size (ps.map (·.1))with
    |some xs=>some {v:= .cl xs,ws:=(ps.flatMap (·.2)).map .frz,rs:=(ps.flatMap (·.2)).map .val}
    |none=>none
   |none=>none
  else none:=(rfl)
def aBp (mx:Bool)(xs:List Val):Option Res:=match xs with
  |[.int j a,.int k b]=>if j=k then some {v:= .int j (if mx then(if b>a then b else a)else(if b<a then b else a))}else none
  |_=>none
@[go_sem] theorem bIo {mx:Bool}{xs:List Opd}:dE d g en get (.minmax mx xs)=aBp mx (xs.map get):=(rfl)
@[go_sem] theorem bO1 {a b:Int}:aBp true [.int k a,.int k b]=some {v:= .int k (max a b)}:=by
 simp only[aBp,if_true,bPo,Res.mk.injEq,Val.int.injEq,true_and,and_true];omega
@[go_sem] theorem bO2 {a b:Int}:aBp false [.int k a,.int k b]=some {v:= .int k (min a b)}:=by
 simp only[aBp,if_true,bPs,if_false,bPo,Res.mk.injEq,Val.int.injEq,true_and,and_true];omega
def aP4 (x:Val):Option Res:=match x with
  | .fp cs off=>some {v:= .fp cs off}
  | .ptr k off=>some {v:= .ptr k off}
  | .ep k i off=>some {v:= .ep k i off}
  | .fn f a b=>some {v:= .fn f a b}
  | .ifc t v=>some {v:= .ifc t v}
  |_=>none
@[go_sem] theorem bJy {x:Opd}:dE d g en get (.nilck x)=aP4 (get x):=(rfl)
@[go_sem] theorem bJz {cs:List Val}{o:Nat}:aP4 (.fp cs o)=some {v:= .fp cs o}:=(rfl)
@[go_sem] theorem bIp {k:Key}{o:Nat}:aP4 (.ptr k o)=some {v:= .ptr k o}:=(rfl)
end
@[go_sem] theorem bIq :eE xs size []=some xs:=(rfl)
@[go_sem] theorem bHf {i:Nat}{jR:List (Nat×Val)}(h1:v.one=true)(h2:v.cells.length=size)(h3:i<xs.length):eE xs size ((i,v)::jR)=eE (xs.set i v) size jR:=by
 simp only[eE,h1,h2,h3,and_self,if_true]
@[go_sem] theorem bO3 {z:Val}:List.replicate 0 z=[]:=(rfl)
@[go_sem] theorem bO4 {z:Val}:List.replicate 1 z=[z]:=(rfl)
@[go_sem] theorem bO5 {z:Val}:List.replicate 4 z=[z,z,z,z]:=(rfl)
@[go_sem] theorem bJ0 {cs:List Val}:sW cs []=some cs:=(rfl)
@[go_sem] theorem bIr {cs:List Val}{jR:List (Nat×Nat×Val)}(h1:v.one=true)(h2:v.cells.length=size)(h3:off+size<=cs.length):sW cs ((off,size,v)::jR)=sW (setCells cs off v.cells) jR:=by
 simp only[sW,h1,h2,h3,and_self,if_true]
@[go_sem] theorem bK5 {cs:List Val}:setCells cs off []=cs:=(rfl)
@[go_sem] theorem bJ1 {cs:List Val}:setCells cs off (v::vs)=setCells (cs.set off v) (off+1) vs:=(rfl)
attribute [go_sem] bRr bRs
@[go_sem] theorem bM9 {j:Int}:oU size en (.cl xs) (.int k j)=if 0<=j then(match aKu xs j.toNat with|some y=>if y.cells.length=size then some {v:= .fp y.cells 0}else none|none=>none)else none:=(rfl)
section
variable {a b:Int}
@[go_sem] theorem bK6 :dA .add .num (.int k a) (.int k b)=some (.int k (k.wrap (a+b))):=by simp[dA,uI]
@[go_sem] theorem bK7 :dA .sub .num (.int k a) (.int k b)=some (.int k (k.wrap (a-b))):=by simp[dA,uI]
@[go_sem] theorem bK8 :dA .mul .num (.int k a) (.int k b)=some (.int k (k.wrap (a*b))):=by simp[dA,uI]
@[go_sem] theorem bK9 :dA .quo .num (.int k a) (.int k b)=if b=0 then none else some (.int k (k.wrap (a.tdiv b))):=by simp[dA,uI]
@[go_sem] theorem bLa :dA .rem .num (.int k a) (.int k b)=if b=0 then none else some (.int k (a.tmod b)):=by simp[dA,uI]
@[go_sem] theorem bLb :dA .lss .num (.int k a) (.int k b)=some (.bool (decide (a<b))):=by simp[dA,uI]
@[go_sem] theorem bLc :dA .leq .num (.int k a) (.int k b)=some (.bool (decide (a<=b))):=by simp[dA,uI]
@[go_sem] theorem bLd :dA .gtr .num (.int k a) (.int k b)=some (.bool (decide (b<a))):=by simp[dA,uI]
@[go_sem] theorem bLe :dA .geq .num (.int k a) (.int k b)=some (.bool (decide (b<=a))):=by simp[dA,uI]
@[go_sem] theorem bLf :dA .eql .num (.int k a) (.int k b)=some (.bool (decide (a=b))):=by
 simp only[dA,oS,if_true,bQi];congr 2
@[go_sem] theorem bLg :dA .neq .num (.int k a) (.int k b)=some (.bool (!decide (a=b))):=by
 simp only[dA,oS,if_true,bQi];congr 3
@[go_sem] theorem bLh {x y:ByteArray}:dA .eql .str (.str x) (.str y)=some (.bool (x.toList==y.toList)):=(rfl)
@[go_sem] theorem bLi {x y:ByteArray}:dA .neq .str (.str x) (.str y)=some (.bool (!(x.toList==y.toList))):=(rfl)
end
@[go_sem] theorem fV :W.applyAll en []=en:=(rfl)
@[go_sem] theorem kY {w:W}:W.applyAll en (w::ws)=W.applyAll (w.apply en) ws:=(rfl)
@[go_sem] theorem yO {k:Key}:(W.ent k e).apply en=en.set k e:=(rfl)
@[go_sem] theorem bJ2 {k:Key}{n:Nat}:sV en (.ptr k off) n=(match en k with|some (.box cs _)=>if off+n<=cs.length then some ((cs.drop off).take n,[.cells k off n])else none|_=>none):=(rfl)
@[go_sem] theorem bLj {cs:List Val}{n:Nat}:sV en (.fp cs off) n=if off+n<=cs.length then some ((cs.drop off).take n,[])else none:=(rfl)
@[go_sem] theorem bD6 {α β:Type}{f:α->β}{x:α}:(some x).map f=some (f x):=(rfl)
@[go_sem] theorem bD7 {β:Type}{f:α->β}:(none:Option α).map f=none:=(rfl)
attribute [go_sem] bRy List.drop_succ_cons bPw bP0 bPy bP7 List.take_nil List.drop_nil
section
variable {R:Ex->St->Prop}
@[go_sem] theorem bJ3 {c:aZ}:Wp L c (start args) R=Wp L c ⟨fun i=>args.getD i (.tup []),fun _=>none,fun _ _=>0⟩ R:=(rfl)
@[go_sem] theorem bLk :Wp L .skip st R=R .normal st:=(rfl)
@[go_sem] theorem bNa :Wp L (.ops l) st R=jE L l st (R .normal):=(rfl)
@[go_sem] theorem bLl :Wp L (.draw l []) st R=jE L l st (R .normal):=by simp[Wp]
theorem qW {a b:aZ}:Wp L (.seq a b) st R=Wp L a st fun e st'=>match e with
  | .normal=>Wp L b st' R
  | .exit i=>R (.exit i) st'
  | .ret=>R .ret st'
  | .panic v=>R (.panic v) st':=(rfl)
def aKw (v:Val)(a b:Prop):Prop:=match v with| .bool t=>if t=true then a else b|_=>False
@[go_sem] theorem bLm {x:Opd}{a b:aZ}:Wp L (.cond x a b) ⟨fr,en,cnt⟩ R=aKw (St.get fr x) (Wp L a ⟨fr,en,cnt⟩ R) (Wp L b ⟨fr,en,cnt⟩ R):=(rfl)
@[congr] theorem bFs {a b:Prop}(h:v=v'):aKw v a b=aKw v' a b:=by rw[h]
@[go_sem] theorem bLn {a b:Prop}:aKw (.bool true) a b=a:=(rfl)
@[go_sem] theorem bLo {a b:Prop}:aKw (.bool false) a b=b:=(rfl)
theorem aY {t:Bool}{a b:Prop}(h:t=true->a)(k:t=false->b):aKw (.bool t) a b:=by cases t<;>first|exact h rfl|exact k rfl
@[go_sem] theorem bJ4 {b:aZ}:Wp L (.block id b) st R=Wp L b st fun e st'=>match e with
  | .exit id'=>if id'=id then R .normal st' else R (.exit id') st'
  | .normal=>R .normal st'
  | .ret=>R .ret st'
  | .panic v=>R (.panic v) st':=(rfl)
@[go_sem] theorem bNb :Ex.calm .normal=true:=(rfl)
@[go_sem] theorem bNc :Ex.calm .ret=true:=(rfl)
@[go_sem] theorem bNd :Ex.calm (.exit id)=true:=(rfl)
@[go_sem] theorem bLp :Wp L (.exit id) st R=R (.exit id) st:=(rfl)
@[go_sem] theorem bNe :Wp L .ret st R=R .ret st:=(rfl)
end
attribute [go_sem] Ex.ends bD2 qD aA7 aWu and_true bSq List.getD_cons_succ List.getD_nil bQj bP1 bQr bQt bR5 bR8 bRt
 not_false_eq_true not_true_eq_false ne_eq bQi bR3 List.all_nil true_and and_true bRl bQn bQ7 bQq if_true if_false bPs bP3 bP8 bQh bQ9
section
variable {i:Int}{x:ByteArray}
@[go_sem] theorem bNf :Val.wk (.int k i)= .int k i:=(rfl)
@[go_sem] theorem bLq :Val.wk (.bool b)= .bool b:=(rfl)
@[go_sem] theorem bNg :Val.wk (.str x)= .str x:=(rfl)
@[go_sem] theorem bO6 :Val.wk (.fz xs)= .fz xs:=(rfl)
@[go_sem] theorem bO7 :Val.wk (.cl xs)= .fz xs:=(rfl)
@[go_sem] theorem bO8 :Val.wk (.fp xs m)= .fp xs m:=(rfl)
@[go_sem] theorem bO9 :Val.wk (.fn m xs ys)= .fn m xs ys:=(rfl)
@[go_sem] theorem bLr :Val.wk .nili= .nili:=(rfl)
@[go_sem] theorem bNh :Val.wk (.ifc m v)= .ifc m v:=(rfl)
@[go_sem] theorem bNi :Val.wk (.agg xs)= .agg (xs.map Val.wk0):=(rfl)
@[go_sem] theorem bNj :Val.wk (.tup xs)= .tup (xs.map Val.wk1):=(rfl)
@[go_sem] theorem bLs :Val.wk1 (.int k i)= .int k i:=(rfl)
@[go_sem] theorem bJ5 :Val.wk1 (.bool b)= .bool b:=(rfl)
@[go_sem] theorem bLt :Val.wk1 (.str x)= .str x:=(rfl)
@[go_sem] theorem bNk :Val.wk1 (.fz xs)= .fz xs:=(rfl)
@[go_sem] theorem bNl :Val.wk1 (.cl xs)= .fz xs:=(rfl)
@[go_sem] theorem bNm :Val.wk1 (.fp xs m)= .fp xs m:=(rfl)
@[go_sem] theorem bNn :Val.wk1 (.fn m xs ys)= .fn m xs ys:=(rfl)
@[go_sem] theorem bJ6 :Val.wk1 .nilp= .nilp:=(rfl)
@[go_sem] theorem bLu :Val.wk1 (.ifc m v)= .ifc m v:=(rfl)
@[go_sem] theorem bLv :Val.wk1 (.agg xs)= .agg (xs.map Val.wk0):=(rfl)
@[go_sem] theorem bLw :Val.wk0 (.int k i)= .int k i:=(rfl)
@[go_sem] theorem bLx :Val.wk0 (.str x)= .str x:=(rfl)
@[go_sem] theorem bNo :Val.wk0 (.fz xs)= .fz xs:=(rfl)
@[go_sem] theorem bNp :Val.wk0 (.cl xs)= .fz xs:=(rfl)
@[go_sem] theorem bJ7 :Val.flat (.int k i)=true:=(rfl)
@[go_sem] theorem bIs :Val.flat (.bool b)=true:=(rfl)
@[go_sem] theorem bJ8 :Val.flat (.str x)=true:=(rfl)
@[go_sem] theorem bIt :Val.cells (.agg xs)=xs:=(rfl)
@[go_sem] theorem bIu :Val.cells (.int k i)=[.int k i]:=(rfl)
@[go_sem] theorem bHg :Val.cells (.bool b)=[.bool b]:=(rfl)
@[go_sem] theorem bIv :Val.cells (.str x)=[.str x]:=(rfl)
@[go_sem] theorem bJ9 :Val.cells (.fz xs)=[.fz xs]:=(rfl)
@[go_sem] theorem bLy :Val.one (.int k i)=true:=(rfl)
@[go_sem] theorem bKa :Val.one (.bool b)=true:=(rfl)
@[go_sem] theorem bLz :Val.one (.str x)=true:=(rfl)
@[go_sem] theorem bNq :Val.one (.fz xs)=true:=(rfl)
@[go_sem] theorem qO :Val.one (.cl xs)=true:=(rfl)
@[go_sem] theorem bL0 :Val.one (.agg xs)=true:=(rfl)
end
section
variable {n :Nat}
@[go_sem] theorem bL1 :snapD (n+1) en (.bool b)=some (.bool b,[]):=(rfl)
@[go_sem] theorem bNr {i:Int}:snapD (n+1) en (.int k i)=some (.int k i,[]):=(rfl)
@[go_sem] theorem bNs :snapD (n+1) en (.str s)=some (.str s,[]):=(rfl)
@[go_sem] theorem bL2 :snapD (n+1) en .nilp=some (.nilp,[]):=(rfl)
@[go_sem] theorem bL3 :snapD (n+1) en .nili=some (.nili,[]):=(rfl)
@[go_sem] theorem bPa :snapD (n+1) en (.fz xs)=some (.fz xs,[]):=(rfl)
@[go_sem] theorem bPb :snapD (n+1) en (.cl xs)=some (.cl xs,[]):=(rfl)
@[go_sem] theorem bPc :snapD (n+1) en (.fp xs off)=some (.fp xs off,[]):=(rfl)
@[go_sem] theorem bNt {cs:List Val}:snapD (n+1) en (.agg cs)=(match cT (snapD n en) cs with|some rs=>some (.agg (rs.map (·.1)),rs.flatMap (·.2))|none=>none):=(rfl)
@[go_sem] theorem bNu {cs:List Val}:snapD (n+1) en (.tup cs)=(match cT (snapD n en) cs with|some rs=>some (.tup (rs.map (·.1)),rs.flatMap (·.2))|none=>none):=(rfl)
@[go_sem] theorem bNv {k:Key}:snapD (n+1) en (.ptr k off)=(match en k with|some (.box cs _)=>(match cT (snapD n en) cs with|some rs=>some (.fp (rs.map (·.1)) off,k::rs.flatMap (·.2))|none=>none)|_=>none):=(rfl)
@[go_sem] theorem bPd {k:Key}{len:Nat}:snapD (n+1) en (.bl k off len)=(match en k with|some (.blk _ xs _)=>if k.deep=true then none else if off+len<=xs.length then some (.fz ((xs.drop off).take len),[k])else none|_=>none):=(rfl)
@[go_sem] theorem bL4 {n:Nat}(h: ¬n=3):Key.deep ⟨n,t,g⟩=false:=by simp[Key.deep,h]
@[go_sem] theorem aKx :Key.deep ⟨0,t,g⟩=false:=(rfl)
end
theorem bQ {L:bH}{b:aZ}{Q:Ex->St->Prop}(n:Nat)(I:Nat->St->Prop)(k0:Nat)(hle:k0<=n)(h0:I k0 st)
  (hr: ∀k st,k<=n->I k st->Wp L b st fun e st'=>match e with
   | .normal=>k<n/\ I (k+1) st'
   | .exit i=>Q (.exit i) st'
   | .ret=>Q .ret st'
   | .panic v=>Q (.panic v) st'):Wp L (.loop b) st Q:=
 wp_loop (fun k st=>k<=n/\ I k st) (fun k=>n-k) k0 ⟨hle,h0⟩ fun k st ⟨hk,hI⟩=>wp_mono b (hr k st hk hI) fun e st' h=>by
  cases e with
  |normal=>exact⟨k+1,⟨by omega,h.2⟩,by omega⟩
  |exit i=>exact h
  |ret=>exact h
  |panic v=>exact h
theorem aW {n:Int}(h: -9223372036854775808<=n/\ n<=9223372036854775807):IntKind.i64.wrap n=n:=IntWalk.i64_in n h
def Few (n:Nat):Prop:=n<=9223372036854775807
@[go_sem] theorem aT {k n:Nat}(h:k<n)(hn:Few n):IntKind.i64.wrap ((k:Int)+1)=((k+1:Nat):Int):=by
 unfold Few at hn;rw[aW (by omega)];rfl
attribute [go_sem] Int.ofNat_lt Int.ofNat_le Int.ofNat_inj decide_true decide_false bPr
@[go_sem] theorem eq2 {a b c d:Int}:dA .eql (.agg [.num,.num]) (.agg [.int k a,.int k b]) (.agg [.int k c,.int k d])=some (.bool (decide (a=c)&&decide (b=d))):=by
 simp only[dA,oS,bPy,bP7,and_self,if_true,jG,xJ];have e:(a==c)=decide (a=c):=by by_cases h:a=c<;>simp[h]
 have e':(b==d)=decide (b=d):=by by_cases h:b=d<;>simp[h]
 rw[e,e']
 by_cases h:a=c<;>by_cases h':b=d<;>simp[h,h']
@[go_sem] theorem ne2 {a b c d:Int}:dA .neq (.agg [.num,.num]) (.agg [.int k a,.int k b]) (.agg [.int k c,.int k d])=some (.bool (!(decide (a=c)&&decide (b=d)))):=by
 simp only[dA,oS,bPy,bP7,and_self,if_true,jG,xJ];have e:(a==c)=decide (a=c):=by by_cases h:a=c<;>simp[h]
 have e':(b==d)=decide (b=d):=by by_cases h:b=d<;>simp[h]
 rw[e,e']
 by_cases h:a=c<;>by_cases h':b=d<;>simp[h,h']
end
def aSm (l:List Int):Val:= .fz (l.map (.int .i64))
structure aD where
 kind:Int
 n:Int
 deriving DecidableEq,Inhabited
def aD.enc (v:aD):Val:= .agg [.int .i64 v.kind,.int .i64 v.n]
structure aB where
 node:Int
 env:List aD
 vals:List aD
 deriving DecidableEq,Inhabited
def aB.enc (f:aB):Val:= .agg [.int .i64 f.node,.fz (f.env.map aD.enc),.fz (f.vals.map aD.enc)]
structure aQ where
 form:Int
 n:Int
 vals:List aD
 frames:List aB
 deriving DecidableEq,Inhabited
def aQ.enc (o:aQ):Val:= .agg [.int .i64 o.form,.int .i64 o.n,.fz (o.vals.map aD.enc),.fz (o.frames.map aB.enc)]
structure bJ where
 port:Int
 n:Int
 deriving DecidableEq,Inhabited
def bJ.enc (o:bJ):Val:= .agg [.int .i64 o.port,.int .i64 o.n]
structure aA where
 objs:List aQ
 tasks:List Int
 outs:List bJ
 ins:List Int
 used:Int
 deriving DecidableEq,Inhabited
def aA.cells (w:aA):List Val:=[.fz (w.objs.map aQ.enc),aSm w.tasks,.fz (w.outs.map bJ.enc),aSm w.ins,.int .i64 w.used]
structure aKy where
 world:aA
 ages:List Int
 marks:List Int
 cycle:Int
 deriving DecidableEq,Inhabited
def aKy.cells (s:aKy):List Val:=s.world.cells++[aSm s.ages,aSm s.marks,.int .i64 s.cycle]
structure cS where
 name:ByteArray
 args:Int
 deriving DecidableEq,Inhabited
def cS.enc (c:cS):Val:= .agg [.str c.name,.int .i64 c.args]
inductive Pat where
 |mk (form n:Int) (text:ByteArray) (parts:List Pat)
 deriving Inhabited
mutual
def Pat.enc :Pat->Val
 | .mk f n t ps=> .agg [.int .i64 f,.int .i64 n,.str t,.fz (Pat.encL ps)]
def Pat.encL :List Pat->List Val
 |[]=>[]
 |p::ps=>p.enc::Pat.encL ps
end
theorem Pat.encL_map : ∀ps:List Pat,Pat.encL ps=ps.map Pat.enc
 |[]=>rfl
 |p::ps=>by rw[Pat.encL,Pat.encL_map ps];rfl
def Pat.form :Pat->Int| .mk f _ _ _=>f
def Pat.n :Pat->Int| .mk _ n _ _=>n
def Pat.text :Pat->ByteArray| .mk _ _ t _=>t
def Pat.parts :Pat->List Pat| .mk _ _ _ l=>l
theorem Pat.enc_eq (p:Pat):p.enc= .agg [.int .i64 p.form,.int .i64 p.n,.str p.text,.fz (p.parts.map Pat.enc)]:=by
 cases p;simp only[Pat.enc,Pat.encL_map,Pat.form,Pat.n,Pat.text,Pat.parts]
structure aM where
 op:Int
 n:Int
 kids:List Int
 pats:List Pat
 deriving Inhabited
def aM.enc (o:aM):Val:= .agg [.int .i64 o.op,.int .i64 o.n,aSm o.kids,.fz (o.pats.map Pat.enc)]
structure aF where
 nodes:List aM
 funs:List Int
 main:Int
 cons:List cS
 deriving Inhabited
def aF.cells (p:aF):List Val:=[.fz (p.nodes.map aM.enc),aSm p.funs,.int .i64 p.main,.fz (p.cons.map cS.enc)]
attribute [go_sem] aD.enc aB.enc aQ.enc bJ.enc cS.enc aM.enc Pat.enc_eq aA.cells aF.cells aKy.cells aSm
@[match_pattern] abbrev Val.i (n:Int):Val:= .int .i64 n
abbrev Val.is (l:List Int):Val:= .fz (l.map (.int .i64))
abbrev aA.cs (w:aA):List Val:=[.fz (w.objs.map aQ.enc),.is w.tasks,.fz (w.outs.map bJ.enc),.is w.ins,.int .i64 w.used]
abbrev aF.cs (p:aF):List Val:=[.fz (p.nodes.map aM.enc),.is p.funs,.int .i64 p.main,.fz (p.cons.map cS.enc)]
def nS (L:bH):List aN->St->(St->Prop)->Prop
 |[],st,Q=>Q st
 |o::l,st,Q=>oT L st o fun st' r=>r.ws=[]/\ r.bump=false/\ r.mem=none/\ nS L l st' Q
theorem mD {L:bH}{o:aN}{K K':St->Res->Prop}(h:oT L st o K)(hk: ∀s r,K s r->K' s r):oT L st o K':=by
 have wop: ∀{d g:Nat} {en:En} {get:Opd->Val} {op:LOp} {K K':Res->Prop},WOp L d g en get op K->(∀r,K r->K' r)->WOp L d g en get op K':=by
  intro d g en get op K K' h hk;have oth:(match dE d g en get op with|some r=>K r|none=>False)->(match dE d g en get op with|some r=>K' r|none=>False):=by
   intro h;split<;>rename_i hr<;>simp only[hr]at h;exact hk _ h
  cases op with
  |call f args=>
   simp only[WOp]at h⊢
   split at h
   ·split at h
    ·obtain⟨r,h1,h2⟩:=h;exact⟨r,h1,hk _ h2⟩
    ·exact h.elim
   ·exact h.elim
  |_=>exact oth h
 unfold oT at h⊢;split
 ·rename_i hw;simp only[hw]at h;split
  ·rename_i f args hop;simp only[hop]at h;exact h.mono fun _ _ _=>hk _ _
  ·rename_i op hne;have h':WOp L (o.dst.getD 0) (st.cnt 0 (o.dst.getD 0)) st.en (St.get st.fr) o.op fun r=>(r.bump&&o.dst.isNone)=false/\
     K ⟨iI st.fr o.dst r.v,W.applyAll st.en r.ws,if r.bump then aC st.cnt 0 (o.dst.getD 0) (st.cnt 0 (o.dst.getD 0)+1)else st.cnt⟩ r:=by
    split at h
    ·rename_i f a hx;exact absurd hx (hne f a)
    ·exact h
   exact wop h' fun r ⟨h1,h2⟩=>⟨h1,hk _ _ h2⟩
 ·rename_i hw;simp only[hw]at h;exact hk _ _ h
 ·rename_i hw;simp only[hw]at h
def bBc (rs:List Res):Prop:= ∀r∈rs,r.ws=[]/\ r.bump=false/\ r.mem=none
theorem aN9 {L:bH}: ∀(l:List aN) {st:St} {Q:St->Prop},nS L l st Q->sH L l st fun st' rs=>bBc rs/\ rs.length=l.length/\ Q st'
 |[],st,Q,h=>⟨fun _ hr=>by simp at hr,rfl,h⟩
 |o::l,st,Q,h=>by
  refine mD h fun s r ⟨h1,h2,h3,h4⟩=>?_
  have rec_: ∀(l:List aN) {st:St} {Q R:St->List Res->Prop},sH L l st Q->(∀s rs,Q s rs->R s rs)->sH L l st R:=by
   intro l
   induction l with
   |nil=>intro st Q R h k;exact k _ _ h
   |cons o l ih=>intro st Q R h k;exact mD h fun s r hs=>ih hs fun s rs hq=>k _ _ hq
  refine rec_ l (aN9 l h4) fun s rs ⟨k1,k2,k3⟩=>⟨fun x hx=>?_,by simp[k2],k3⟩
  rcases bQm.1 hx with rfl|hx
  ·exact⟨h1,h2,h3⟩
  ·exact k1 x hx
variable {pairs:List (Nat×Nat)}
theorem aBq {L:bH}{R:Ex->St->Prop}(hp:pairs.all (fun p=>decide (p.1<l.length)&&decide (p.2<l.length))=true)
  (h:nS L l st (R .normal)):Wp L (.draw l pairs) st R:=by
 simp only[Wp];have hr:=aN9 l h;split
 ·rename_i hpp;have: ∀(l:List aN) {st:St} {Q:St->List Res->Prop} {R:St->Prop},sH L l st Q->(∀s rs,Q s rs->R s)->jE L l st R:=by
   intro l
   induction l with
   |nil=>intro st Q R h k;exact k _ _ h
   |cons o l ih=>intro st Q R h k;exact mD h fun s r hs=>ih hs fun s rs hq=>k _ _ hq
  exact this l hr fun s rs h=>h.2.2
 ·have rec_: ∀(l:List aN) {st:St} {Q R:St->List Res->Prop},sH L l st Q->(∀s rs,Q s rs->R s rs)->sH L l st R:=by
   intro l
   induction l with
   |nil=>intro st Q R h k;exact k _ _ h
   |cons o l ih=>intro st Q R h k;exact mD h fun s r hs=>ih hs fun s rs hq=>k _ _ hq
  refine rec_ l hr fun s rs ⟨h1,h2,h3⟩=>⟨?_,h3⟩
  unfold dP
  refine bPv.2 fun p hpm=>?_
  have:=bPv.1 hp p hpm;simp only[bPp,bTe]at this;rw[bQz (by omega),bQz (by omega)]
  obtain⟨a1,a2,a3⟩:=h1 rs[p.1] (bPz _);obtain⟨b1,b2,b3⟩:=h1 rs[p.2] (bPz _);simp[aEy,a1,a3,b1,b3]
section
variable {L :bH}{Q:St->Prop}
@[go_sem] theorem bNw (st:St):nS L [] st Q=Q st:=(rfl)
def aKz (L:bH)(l:List aN)(dst:Option Nat)(fr:Nat->Val)(en:En)(cnt:Nat->Nat->Nat)(Q:St->Prop):Option Res->Prop
 |some r=>(r.bump&&dst.isNone)=false/\ r.ws=[]/\ r.bump=false/\ r.mem=none/\ nS L l ⟨iI fr dst r.v,W.applyAll en r.ws,if r.bump then aC cnt 0 (dst.getD 0) (cnt 0 (dst.getD 0)+1)else cnt⟩ Q
 |none=>False
@[congr] theorem bFt {r:Option Res}(h:r=r'):aKz L l dst fr en cnt Q r=aKz L l dst fr en cnt Q r':=by rw[h]
@[go_sem] theorem bHh {rs:List R}:
  aKz L l dst fr en cnt Q (some ⟨v,[],rs,false,none,u⟩)=nS L l ⟨iI fr dst v,en,cnt⟩ Q:=by simp[aKz,W.applyAll]
@[go_sem] theorem bPe (h:op.plain=true):nS L (⟨dst,op,none⟩::l) ⟨fr,en,cnt⟩ Q=aKz L l dst fr en cnt Q (dE (dst.getD 0) (cnt 0 (dst.getD 0)) en (St.get fr) op):=by
 cases op<;>first|(simp[LOp.plain]at h;done)|rfl|(simp only[nS,oT,wanted,WOp,aKz];rfl)
@[go_sem] theorem bBd :nS L (⟨dst,op,some (t,b)⟩::l) ⟨fr,en,cnt⟩ Q=
  rQ (fr t) b (nS L (⟨dst,op,none⟩::l) ⟨fr,en,cnt⟩ Q) (nS L l ⟨iI fr dst (.tup []),en,cnt⟩ Q):=by
 simp only[nS,oT,wanted,rQ]
 split<;>rename_i h
 ·split at h
  ·rename_i b' hb;simp only[bPo]at h;simp only[hb,h,if_true]
  ·cases h
  ·cases h
 ·split at h
  ·rename_i b' hb;simp only[bPo]at h;simp only[hb,h,bPs,if_false,true_and]
  ·rename_i hb;simp only[hb,true_and]
  ·cases h
 ·split at h
  ·cases h
  ·cases h
  ·rename_i h1 h2;split
   ·rename_i b' hb;exact absurd hb (h1 _)
   ·rename_i hb;exact absurd hb h2
   ·rfl
@[go_sem] theorem bL5 {f:Opd}{args:List Opd}:nS L (⟨dst,.call f args,none⟩::l) ⟨fr,en,cnt⟩ Q=
  aDp L en (St.get fr f) (args.map (St.get fr)) fun r ks=>aKz L l dst fr en cnt Q (some (iE 0 (dst.getD 0) (cnt 0 (dst.getD 0)) r ks)):=by
 simp only[nS,oT,wanted,WOp,aDp,aIh,aSk];cases St.get fr f<;>first|rfl|skip
end
section
variable {L :bH}{Q:St->Prop}
def aFl (m:Nat)(en:En)(a v:Val):Option Res:=
  if v.one=true/\ v.cells.length=m then
   match a with
   | .ptr k off=>match en k with
    |some (.box cs false)=>if off+m<=cs.length then some {v:= .tup [],ws:=[.cells k off v.cells],rs:=[.flag k]}else none
    |_=>none
   | .ep k i off=>match en k with
    |some (.blk _ xs false)=>match xs[i]? with
     |some y=>if off+m<=y.cells.length then
       if k.deep then none else
       match snapD 8 en v with
       |some (v',ks)=>if v'.one=true/\ v'.cells.length=m/\ ks.all (fun k'=>decide (k'≠k))=true then some {v:= .tup [],ws:=ks.map .frz++[.elem k i off v'.wk1.cells],rs:= .val k:: .flag k::ks.map .val}else none
       |none=>none
      else none
     |none=>none
    |_=>none
   |_=>none
  else none
@[go_sem] theorem bIw {a x:Opd}:dE d g en get (.store m a x)=aFl m en (get a) (get x):=(rfl)
@[go_sem] theorem bIx {k:Key}(h1:v.one=true)(h2:v.cells.length=m):aFl m en (.ptr k off) v=(match en k with
    |some (.box cs false)=>if off+m<=cs.length then some {v:= .tup [],ws:=[.cells k off v.cells],rs:=[.flag k]}else none
    |_=>none):=by simp[aFl,h1,h2]
@[go_sem] theorem bFu {k:Key}:(W.cells k off vs).apply en=(match en k with
  |some (.box cs f)=>en.set k (some (.box (setCells cs off vs) f))
  |_=>en):=(rfl)
def kP (str:Bool)(size:Nat)(en:En)(x:Val)(lo hi mx:Option Val):Option Res:=
  if str then
   match x,mx with
   | .str s,none=>match jC hi s.size s.size with
    |some h=>(jC lo 0 h).map fun l=>{v:= .str (s.extract l h)}
    |none=>none
   |_,_=>none
  else match x with
   | .fz xs=>match mx with
    |none=>match jC hi xs.length xs.length with
     |some h=>match jC lo 0 h with
      |some l=>if l=0 \/cU size xs=true then some {v:= .fz ((xs.take h).drop l)}else none
      |none=>none
     |none=>none
    |some m=>aJv size xs lo hi m
   | .cl xs=>match mx with
    |none=>match jC hi xs.length xs.length with
     |some h=>match jC lo 0 h with
      |some l=>if l=0 \/cU size xs=true then some {v:=if h=xs.length then .cl (xs.drop l)else .fz ((xs.take h).drop l)}else none
      |none=>none
     |none=>none
    |some m=>aJv size xs lo hi m
   | .bl k off len=>match mx with
    |none=>match jC hi len len with
     |some h=>match jC lo 0 h with
      |some l=>match en k with
       |some (.blk sz _ _)=>if l=0 \/sz=size then some {v:= .bl k (off+l) (h-l),rs:=[.val k]}else none
       |_=>none
      |none=>none
     |none=>none
    |some _=>none
   |_=>none
@[go_sem] theorem bIy {str:Bool}{x:Opd}{lo hi mx:Option Opd}:dE d g en get (.slice str size x lo hi mx)=kP str size en (get x) (lo.map get) (hi.map get) (mx.map get):=by
 cases mx<;>cases str<;>(simp only[dE,eval,kP,Option.map])<;>cases get x<;>rfl
@[go_sem] theorem uZ {a:Nat}:jC none a t=some a:=(rfl)
theorem tY {i a:Nat}(h:i<=t):jC (some (.int k (i:Int))) a t=some i:=by
 simp only[jC];rw[if_pos ⟨by omega,by omega⟩];simp
@[go_sem] theorem vA {i:Nat}(h:i<=xs.length):kP false size en (.fz xs) none (some (.int k (i:Int))) none=some {v:= .fz (xs.take i)}:=by
 simp[kP,tY h,uZ]
theorem aK0 {i:Nat}(h:i<=xs.length)(hs:cU size xs=true):kP false size en (.fz xs) (some (.int k (i:Int))) none none=some {v:= .fz (xs.drop i)}:=by
 simp[kP,tY h,uZ,hs]
end
theorem aSn {l:List α}{k:Nat}(h:k<l.length)(p:α->Bool):(l.drop k).any p=(p l[k]||(l.drop (k+1)).any p):=by
 rw[bQu h,List.any_cons]
theorem gD {l:List α}{k:Nat}(h:k<l.length)(p:α->Bool):(l.drop k).all p=(p l[k]&&(l.drop (k+1)).all p):=by
 rw[bQu h,bR3]
variable {D:List Nat}
section
variable {L :bH}{Q:St->Prop}
def cP (en:En)(v:Val)(size:Nat)(xs:List Val)(D:List Nat):Prop:=
 (v= .cl []/\ xs=[]) \/ ∃t g f,v= .bl ⟨0,t,g⟩ 0 xs.length/\ en ⟨0,t,g⟩=some (.blk size xs f)/\ t∈D
theorem cP.nil (size:Nat)(D:List Nat):cP en (.cl []) size [] D:= .inl ⟨rfl,rfl⟩
theorem cP.keep (h:cP en v size xs D)(k: ∀t g,t∈D->en' ⟨0,t,g⟩=en ⟨0,t,g⟩):cP en' v size xs D:=by
 rcases h with h|⟨t,g,f,h1,h2,h3⟩
 ·exact .inl h
 ·exact .inr ⟨t,g,f,h1,by rw[k t g h3];exact h2,h3⟩
theorem cP.sub {D':List Nat}(h:cP en v size xs D)(k: ∀t∈D,t∈D'):cP en v size xs D':=by
 rcases h with h|⟨t,g,f,h1,h2,h3⟩
 ·exact .inl h
 ·exact .inr ⟨t,g,f,h1,h2,k t h3⟩
theorem cP.snap (h:cP en v size xs D)(n:Nat):
  ∃r ks,snapD (n+1) en v=some (r,ks)/\ r.wk0= .fz xs/\ r.wk1= .fz xs/\ r.wk= .fz xs/\ (r= .fz xs \/r= .cl xs):=by
 rcases h with⟨rfl,rfl⟩|⟨t,g,f,rfl,h2,_⟩
 ·exact⟨.cl [],[],rfl,rfl,rfl,rfl,.inr rfl⟩
 ·refine⟨.fz xs,[⟨0,t,g⟩],?_,rfl,rfl,rfl,.inl rfl⟩
  simp[snapD,h2,aKx]
theorem cP.len (h:cP en v size xs D):sD v=some xs.length:=by
 rcases h with⟨rfl,rfl⟩|⟨t,g,f,rfl,h2,_⟩<;>rfl
@[go_sem] theorem aSo :iY en (.cl xs)=some (xs,[]):=(rfl)
@[go_sem] theorem aK1 :iY en (.fz xs)=some (xs,[]):=(rfl)
theorem kQ {x y:Opd}{rs:List R}(hx:cP en (St.get fr x) size xs D)(hy:iY en (St.get fr y)=some (ys,rs))(h1:cU size ys=true)
  (hl:xs.length+ys.length<=16777216)
  (k: ∀v en' cnt',cP en' v size (xs++ys) (d::D)->(∀n t g,n≠0 \/(t≠d/\ t∉D)->en' ⟨n,t,g⟩=en ⟨n,t,g⟩)->(∀n t,t≠d->cnt' n t=cnt n t)->jE L l ⟨jN fr d v,en',cnt'⟩ Q):
  jE L (⟨some d,.append size x y,none⟩::l) ⟨fr,en,cnt⟩ Q:=by
 rw[aSj (by rfl)]
 simp only[bQg];rcases hx with⟨hv,rfl⟩|⟨t,g,f,hv,he,ht⟩
 ·simp only[dE,eval,fT,hy,h1,if_true,hv]
  by_cases hys:ys.isEmpty=true
  ·have:ys=[]:=by simpa using hys
   subst this;simp only[List.isEmpty_nil,if_true,aN8,fV];exact k _ _ _ (.inl ⟨rfl,rfl⟩) (fun _ _ _ _=>rfl) (fun _ _ _=>rfl)
  ·rw[if_neg hys,if_pos ⟨by simpa using hl,rfl⟩]
   simp only[aHh,kY,fV,yO]
   refine k _ _ _ (.inr ⟨d,cnt 0 d,false,by simp,by simp[En.set],by simp⟩) (fun n t g h=>iZ (fun he=>?_)) (fun n t h=>by simp[aC,h])
   injection he with h3 h4 h5
   rcases h with h|⟨h,_⟩
   ·exact h h3
   ·exact h h4
 ·simp only[dE,eval,fT,aKx,hy,h1,if_true,hv,he];rw[if_pos ⟨.inl (by simp),hl,trivial,fun h=>by cases h⟩]
  simp only[aHh,kY,fV,yO]
  refine k _ _ _ (.inr ⟨d,cnt 0 d,f,by simp,?_,by simp⟩) (fun n t' g' h=>?_) (fun n t h=>by simp[aC,h])
  ·simp[En.set]
  ·have e1:(⟨n,t',g'⟩:Key)≠⟨0,d,cnt 0 d⟩:=by
    intro he;injection he with h3 h4 h5;rcases h with h|⟨h,_⟩
    ·exact h h3
    ·exact h h4
   have e2:(⟨n,t',g'⟩:Key)≠⟨0,t,g⟩:=by
    intro he;injection he with h3 h4 h5;subst h4;rcases h with h|⟨_,h⟩
    ·exact h h3
    ·exact h ht
   rw[iZ e1,iZ e2]
def aW7 (x i:Val):Option Res:=match x,i with
  | .str s,.int _ j=>if 0<=j then(s[j.toNat]?).map fun b=>{v:= .int .u8 b.toNat}else none
  |_,_=>none
@[go_sem] theorem bL6 {x i:Opd}:dE d g en get (.ixs x i)=aW7 (get x) (get i):=(rfl)
theorem bD8 (h:j<s.data.toList.length):aW7 (.str s) (.int k (j:Int))=some {v:= .int .u8 (s.data.toList[j]).toNat}:=by
 have h':j<s.size:=by rw[bRz]at h;exact h
 have e:s[(j:Int).toNat]?=some (s.data.toList[j]):=by
  simp only[bQo];rw[getElem?_pos s j h'];exact congrArg some (by rw[ByteArray.getElem_eq_getElem_data,bSm])
 unfold aW7;simp only[if_pos (bSa j),e,Option.map]
end
inductive dT (a b:Prop):Type
 |mk
section
variable {L :bH}{Q:St->Prop}{R:Ex->St->Prop}
def aHi (v:Val)(a b:Prop)(_:dT a b):Prop:=aKw v a b
def pF (v:Val)(t:Bool)(a b:Prop)(_:dT a b):Prop:=rQ v t a b
@[congr] theorem bD9 {a b:Prop}{k:dT a b}(h:v=v'):aHi v a b k=aHi v' a b k:=by rw[h]
@[congr] theorem bDe {t:Bool}{a b:Prop}{k:dT a b}(h:v=v'):pF v t a b k=pF v' t a b k:=by rw[h]
theorem qC {x:Opd}{a b:aZ}:Wp L (.cond x a b) ⟨fr,en,cnt⟩ R=aHi (St.get fr x) (Wp L a ⟨fr,en,cnt⟩ R) (Wp L b ⟨fr,en,cnt⟩ R) .mk:=(rfl)
theorem bBe {a b:Prop}{k:dT a b}:aHi (.bool true) a b k=a:=(rfl)
theorem bBf {a b:Prop}{k:dT a b}:aHi (.bool false) a b k=b:=(rfl)
theorem aG {t:Bool}{a b:Prop}{k:dT a b}(h:t=true->a)(h':t=false->b):aHi (.bool t) a b k:=aY h h'
theorem qG {t:Nat}{b:Bool}{op:LOp}:jE L (⟨dst,op,some (t,b)⟩::l) ⟨fr,en,cnt⟩ Q=
  pF (fr t) b (jE L (⟨dst,op,none⟩::l) ⟨fr,en,cnt⟩ Q) (jE L l ⟨iI fr dst (.tup []),en,cnt⟩ Q) .mk:=bD4
theorem qS {t:Nat}{b:Bool}{op:LOp}:nS L (⟨dst,op,some (t,b)⟩::l) ⟨fr,en,cnt⟩ Q=
  pF (fr t) b (nS L (⟨dst,op,none⟩::l) ⟨fr,en,cnt⟩ Q) (nS L l ⟨iI fr dst (.tup []),en,cnt⟩ Q) .mk:=bBd
theorem aYj {a b:Prop}{k:dT a b}:pF (.bool true) true a b k=a:=(rfl)
theorem aYk {a b:Prop}{k:dT a b}:pF (.bool false) false a b k=a:=(rfl)
theorem aYl {a b:Prop}{k:dT a b}:pF (.bool true) false a b k=b:=(rfl)
theorem aYm {a b:Prop}{k:dT a b}:pF (.bool false) true a b k=b:=(rfl)
theorem aYn {a b:Prop}{k:dT a b}{t:Bool}:pF (.tup []) t a b k=b:=(rfl)
theorem aJ {k:dT yes no}(h:b=b'->yes)(h':b=!b'->no):pF (.bool b) b' yes no k:=bB h h'
end
theorem aEe {L:bH}{b:aZ}{R:Ex->St->Prop}:Wp L (.seq (.ops l) b) st R=jE L l st fun st'=>Wp L b st' R:=(rfl)
theorem aC2 {L:bH}{a b:aZ}{Q:Ex->St->Prop}(M:St->Prop)
  (h:Wp L a st fun e st'=>match e with| .normal=>M st'| .exit i=>Q (.exit i) st'| .ret=>Q .ret st'| .panic v=>Q (.panic v) st') (k: ∀fr en cnt,M ⟨fr,en,cnt⟩->Wp L b ⟨fr,en,cnt⟩ Q):Wp L (.seq a b) st Q:=
 bG9 M h fun st' h'=>k _ _ _ h'
section
variable {L :bH}{Q:St->Prop}
def bHi (size:Nat)(z:List Val)(d g:Nat)(x y:Val):Option Res:=match x,y with
  | .int .i64 a,.int .i64 b=>if a=b/\ aRj a=true then
    some {v:= .bl ⟨0,d,g⟩ 0 a.toNat,ws:=[.ent ⟨0,d,g⟩ (some (.blk size (List.replicate a.toNat (kE size z false)) false))],bump:=true}else none
  |_,_=>none
@[go_sem] theorem bIz {x y:Opd}:dE d g en get (.mklen size z x y)=bHi size z d g (get x) (get y):=(rfl)
theorem bBg {n:Nat}(h:n<=16777216):bHi size z d g (.int .i64 (n:Int)) (.int .i64 (n:Int))=some {v:= .bl ⟨0,d,g⟩ 0 n,ws:=[.ent ⟨0,d,g⟩ (some (.blk size (List.replicate n (kE size z false)) false))],bump:=true}:=by
 have:aRj (n:Int)=true:=by simp[aRj];omega
 simp[bHi,this]
@[go_sem] theorem bFv :kE 1 [.bool b] false= .bool b:=(rfl)
@[go_sem] theorem bHj {n:Int}:kE 1 [.int k n] false= .int k n:=(rfl)
@[go_sem] theorem bPf {len:Nat}{k:Key}{kk:IntKind}{j:Int}:oU size en (.bl k off len) (.int kk j)=(match en k with
  |some (.blk sz _ _)=>if 0<=j/\ j<len/\ sz=size then some {v:= .ep k (off+j.toNat) 0,rs:=[.val k]}else none
  |_=>none):=(rfl)
@[go_sem] theorem bL7 {k:Key}{i n:Nat}:sV en (.ep k i off) n=(match en k with
  |some (.blk _ xs _)=>(match xs[i]? with
   |some x=>if off+n<=x.cells.length then some ((x.cells.drop off).take n,[.val k])else none
   |none=>none)
  |_=>none):=(rfl)
@[go_sem] theorem bKb {i:Nat}{k:Key}(h1:v.one=true)(h2:v.cells.length=m):aFl m en (.ep k i off) v=(match en k with
    |some (.blk _ xs false)=>(match xs[i]? with
     |some y=>if off+m<=y.cells.length then
       if k.deep=true then none else
       (match snapD 8 en v with
       |some (v',ks)=>if v'.one=true/\ v'.cells.length=m/\ ks.all (fun k'=>decide (k'≠k))=true then some {v:= .tup [],ws:=ks.map .frz++[.elem k i off v'.wk1.cells],rs:= .val k:: .flag k::ks.map .val}else none
       |none=>none)
      else none
     |none=>none)
    |_=>none):=by simp[aFl,h1,h2]
@[go_sem] theorem bHk {k:Key}{i:Nat}:(W.elem k i off vs).apply en=(match en k with
  |some (.blk sz xs f)=>(match xs[i]? with
   |some x=>en.set k (some (.blk sz (xs.set i (fD x off vs)) f))
   |none=>en)
  |_=>en):=(rfl)
@[go_sem] theorem bKc :fD (.bool b) 0 [v]=v:=(rfl)
@[go_sem] theorem bL8 {n:Int}:fD (.int k n) 0 [v]=v:=(rfl)
attribute [go_sem] List.all_nil ite_self
end
variable {tbl:List (Nat×Nat)}
section
variable {L :bH}{n:Nat}
@[go_sem] theorem bPg {b:List Val}:snapD (n+1) en (.fn f a b)=(match cT (snapD n en) a with
   |some x=>(match cT (snapD n en) b with
    |some y=>some (.fn f (x.map (·.1)) (y.map (·.1)),x.flatMap (·.2)++y.flatMap (·.2))
    |none=>none)
   |none=>none):=(rfl)
@[go_sem] theorem bNx :snapD (n+1) en (.ifc t v)=(match snapD n en v with
   |some r=>some (.ifc t r.1,r.2)
   |none=>none):=(rfl)
@[go_sem] theorem g_m {i:Nat}:St.get fr (.m tbl i)=aA6 tbl (fr i):=(rfl)
@[go_sem] theorem bHl :aA6 tbl (.ifc t v)=(match tbl.lookup t with
  |some f=> .fn f [v] []
  |none=> .dead):=(rfl)
attribute [go_sem] List.lookup_cons
structure eH {α:Type} (L:bH) (enc:α->Val) (h:Val) (p:α->Bool) (l:List α):Prop where
 snap: ∀n en,4<=n->snapD n en h=some (h,[])
 wk:h.wk1=h
 one:h.one=true
 cells:h.cells=[h]
 call: ∀x∈l,∀en K,K (.bool (p x)) []->aDp L en h [enc x] K
theorem mE (h1:v.one=true)(h2:v.cells=[v]):aBo d g 1 v=some {v:= .ptr ⟨0,d,g⟩ 0,ws:=[.ent ⟨0,d,g⟩ (some (.box [v] false))],bump:=true}:=by
 simp[aBo,h1,h2]
end
def idxOf {α:Type}(p:α->Bool):List α->Nat->Int
 |[],_=> -1
 |x::l,k=>if p x then(k:Int)else idxOf p l (k+1)
theorem aHj {α:Type}(p:α->Bool): ∀(l:List α) (k:Nat),decide (0<=idxOf p l k)=l.any p
 |[],k=>by simp[idxOf]
 |x::l,k=>by
  simp only[idxOf,List.any_cons];split
  ·rename_i h;simp[h]
  ·rename_i h;rw[aHj p l (k+1)];simp[h]
variable {key:Key}
section
def bFw (d g:Nat)(x:Val):Option Res:=match x with
  | .str s=>some {v:= .it ⟨0,d,g⟩,ws:=[.ent ⟨0,d,g⟩ (some (.iter s 0))],bump:=true}
  |_=>none
@[go_sem] theorem bL9 {x:Opd}:dE d g en get (.rng x)=bFw d g (get x):=(rfl)
@[go_sem] theorem bMa :bFw d g (.str s)=some {v:= .it ⟨0,d,g⟩,ws:=[.ent ⟨0,d,g⟩ (some (.iter s 0))],bump:=true}:=(rfl)
def bFx (en:En)(x:Val):Option Res:=match x with
  | .it k=>match en k with
   |some (.iter s pos)=>
    if pos<s.size then some {v:= .tup [.bool true,.int .i64 pos,.int .i32 (Utf8.decode s pos).1],ws:=[.ent k (some (.iter s (pos+(Utf8.decode s pos).2)))],rs:=[.val k,.flag k]}
    else some {v:= .tup [.bool false],rs:=[.val k]}
   |_=>none
  |_=>none
@[go_sem] theorem bMb {x:Opd}:dE d g en get (.nxt x)=bFx en (get x):=(rfl)
@[go_sem] theorem bNy {k:Key}:bFx en (.it k)=(match en k with
   |some (.iter s pos)=>
    if pos<s.size then some {v:= .tup [.bool true,.int .i64 pos,.int .i32 (Utf8.decode s pos).1],ws:=[.ent k (some (.iter s (pos+(Utf8.decode s pos).2)))],rs:=[.val k,.flag k]}
    else some {v:= .tup [.bool false],rs:=[.val k]}
   |_=>none):=(rfl)
def bFy (t:EqT)(en:En)(m k x:Val):Option Res:=match m with
  | .mp key=>match en key with
   |some (.map ks vs false)=>
    if uJ t k&&x.flat1 then
     match findKey t k ks with
     |some (some i)=>some {v:= .tup [],ws:=[.ent key (some (.map (ks.set i k) (vs.set i x) false))],rs:=[.val key,.flag key]}
     |some none=>some {v:= .tup [],ws:=[.ent key (some (.map (ks++[k]) (vs++[x]) false))],rs:=[.val key,.flag key]}
     |none=>none
    else none
   |_=>none
  |_=>none
@[go_sem] theorem bKd {t:EqT}{m k x:Opd}:dE d g en get (.mput t m k x)=bFy t en (get m) (get k) (get x):=(rfl)
@[go_sem] theorem bNz {t:EqT}{k x:Val}:bFy t en (.mp key) k x=(match en key with
   |some (.map ks vs false)=>
    if(uJ t k&&x.flat1)=true then
     (match findKey t k ks with
     |some (some i)=>some {v:= .tup [],ws:=[.ent key (some (.map (ks.set i k) (vs.set i x) false))],rs:=[.val key,.flag key]}
     |some none=>some {v:= .tup [],ws:=[.ent key (some (.map (ks++[k]) (vs++[x]) false))],rs:=[.val key,.flag key]}
     |none=>none)
    else none
   |_=>none):=(rfl)
@[go_sem] theorem bI0 :uJ .str (.str s)=true:=(rfl)
@[go_sem] theorem bI1 {n:Int}:uJ .num (.int k n)=true:=(rfl)
@[go_sem] theorem bHm :Val.flat1 (.bool b)=true:=(rfl)
@[go_sem] theorem bN0 {k:Key}:aSl .map en (.mp k)=(match en k with
    |some (.map ks _ _)=>some {v:= .int .i64 ks.length,rs:=[.val k]}
    |_=>none):=(rfl)
def aEf (t:EqT)(z:Val)(ok:Bool)(k:Val)(ks vs:List Val):Option Val:=match findKey t k ks with
    |some (some i)=>some (if ok then .tup [vs.getD i .dead,.bool true]else vs.getD i .dead)
    |some none=>some (if ok then .tup [z,.bool false]else z)
    |none=>none
def aSp (t:EqT)(z:Val)(ok:Bool)(en:En)(m k:Val):Option Res:=
  if uJ t k then
   match m with
   | .mp key=>match en key with
    |some (.map ks vs _)=>(aEf t z ok k ks vs).map fun v=>{v,rs:=[.val key]}
    |_=>none
   | .fm ks vs=>(aEf t z ok k ks vs).map fun v=>{v}
   | .nilm=>(aEf t z ok k [] []).map fun v=>{v}
   |_=>none
  else none
@[go_sem] theorem bKe {t:EqT}{z:Val}{m k:Opd}:dE d g en get (.mget t z ok m k)=aSp t z ok en (get m) (get k):=(rfl)
@[go_sem] theorem bN1 {t:EqT}{z:Val}{k:Val}(h:uJ t k=true):aSp t z ok en (.mp key) k=(match en key with
    |some (.map ks vs _)=>(aEf t z ok k ks vs).map fun v=>{v,rs:=[.val key]}
    |_=>none):=by simp[aSp,h]
@[go_sem] theorem bN2 {t:EqT}{z:Val}{k:Val}{ks:List Val}(h:uJ t k=true):aSp t z ok en (.fm ks vs) k=(aEf t z ok k ks vs).map fun v=>{v}:=by simp[aSp,h]
end
theorem aFm {L:bH}{g:Opd}{a b:aZ}{Q:Ex->St->Prop}{x y:List Val}(h:St.get fr g= .fn f x y)
  (H: ∀fr0 k,fr0=fr->k=kO cnt->WIn L (.fn f x y) [.yld k] (en.set k (some (.loop fr0 ps a b .ready))) (aC cnt 1 0 (cnt 1 0+1)) fun _ en' cnt'=>
   match en' k with
   |some (.loop _ _ _ _ .ready)=>Q .normal ⟨fr,en'.set k none,cnt'⟩
   |some (.loop _ _ _ _ (.done e))=>Q e ⟨fr,en'.set k none,cnt'⟩
   |_=>False):Wp L (.rangeF g ps a b) ⟨fr,en,cnt⟩ Q:=by
 simp only[Wp,h];exact .inl (H fr _ rfl rfl)
theorem aOa {L:bH}{g:Opd}{a b:aZ}{Q:Ex->St->Prop}{x y:List Val}(h:St.get fr g= .fn f x y)
  (H: ∀fr0 k,fr0=fr->k=kO cnt->xQ L f (x++[.yld k]++y) (en.set k (some (.loop fr0 ps a b .ready))) (aC cnt 1 0 (cnt 1 0+1)) fun v en' cnt'=>Q (.panic v) ⟨fr,en'.set k none,cnt'⟩):Wp L (.rangeF g ps a b) ⟨fr,en,cnt⟩ Q:=by
 simp only[Wp,h];exact .inr (H fr _ rfl rfl)
@[go_sem] theorem bHn :aA8 fr [] vs=fr:=(rfl)
@[go_sem] theorem bFz {p:Nat}:aA8 fr (p::ps) (v::vs)=aA8 (jN fr p v) ps vs:=(rfl)
theorem aVr :kO cnt=⟨1,0,cnt 1 0⟩:=rfl
theorem cP.shape (h:cP en v size xs D):v.one=true/\ v.cells=[v]:=by
 rcases h with⟨rfl,_⟩|⟨t,g,f,rfl,_⟩<;>exact⟨rfl,rfl⟩
attribute [go_sem] bBe bBf aYj aYk aYl aYm aYn Int.cast_ofNat_Int beq_self_eq_true
attribute [go_sem] Nat.reduceEqDiff Nat.reduceBEq Nat.reduceMul Nat.reduceLeDiff Nat.reduceAdd Nat.reduceSub Nat.reduceLT Int.reduceLT Int.reduceLE Int.reduceToNat Int.reduceAdd Int.reduceNeg Int.reduceEq Int.reduceOfNat Int.reduceNegSucc
theorem kK :type_of% @qC/\ type_of% @qG/\ type_of% @qS/\ type_of% @qW:=⟨@qC,@qG,@qS,@qW⟩
theorem kA :type_of% @bR3.{0}/\ type_of% @bR9.{0}/\ type_of% @bS3.{0}/\ type_of% @Bool.true_or/\ type_of% @bRq:=⟨@bR3.{0},@bR9.{0},@bS3.{0},@Bool.true_or,@bRq⟩
theorem kF :type_of% @bPs/\ type_of% @if_false.{1}/\ type_of% @bQg.{0}:=⟨@bPs,@if_false.{1},@bQg.{0}⟩
def lM (L:bH):List aN->St->(St->List Res->Prop)->Prop
 |[],st,Q=>Q st []
 |o::l,st,Q=>oT L st o fun st' r=>lM L l st' fun s rs=>Q s ({r with v:= .dead}::rs)
theorem tZ {L:bH}(l:List aN): ∀{st:St} {Q R:St->List Res->Prop},sH L l st Q->(∀s rs,Q s rs->R s rs)->sH L l st R:=by
 induction l with
 |nil=>intro st Q R h k;exact k _ _ h
 |cons o l ih=>intro st Q R h k;exact mD h fun s r hs=>ih hs fun s rs hq=>k _ _ hq
def mY :List Res->List Res->Prop
 |[],[]=>True
 |a::l,b::m=>(a={b with v:= .dead})/\ mY l m
 |_,_=>False
theorem yP {L:bH}: ∀(l:List aN) {st:St} {Q:St->List Res->Prop},lM L l st Q->sH L l st fun st' rs=> ∃fs,mY fs rs/\ Q st' fs
 |[],st,Q,h=>⟨[],trivial,h⟩
 |o::l,st,Q,h=>by
  refine mD h fun s r h2=>?_
  refine tZ l (yP l h2) fun s rs ⟨fs,k1,k2⟩=>⟨{r with v:= .dead}::fs,(show mY ({r with v:= .dead}::fs) (r::rs)from⟨rfl,k1⟩),k2⟩
theorem aBr : ∀{fs rs:List Res},mY fs rs-> ∀(i:Nat),(fs[i]?=none/\ rs[i]?=none) \/ ∃b,fs[i]?=some {b with v:= .dead}/\ rs[i]?=some b
 |[],[],_,i=> .inl ⟨rfl,rfl⟩
 |a::l,b::m,h,0=> .inr ⟨b,by rw[<-h.1];rfl,rfl⟩
 |a::l,b::m,h,i+1=>by simpa using aBr h.2 i
 |[],_::_,h,_=>h.elim
 |_::_,[],h,_=>h.elim
variable {fs rs:List Res}
theorem rR (h:mY fs rs)(pairs:List (Nat×Nat))(hp:dP fs pairs=true):dP rs pairs=true:=by
 unfold dP at hp⊢
 refine bPv.2 fun p hm=>?_
 have:=bPv.1 hp p hm;rcases aBr h p.1 with⟨a1,_⟩|⟨b,a1,a2⟩
 ·rw[a1]at this;cases this
 rcases aBr h p.2 with⟨c1,_⟩|⟨d,c1,c2⟩
 ·rw[a1,c1]at this;cases this
 rw[a1,c1]at this;rw[a2,c2];exact this
theorem aH {L:bH}{R:Ex->St->Prop}
  (h:lM L l st fun st' rs=>dP rs pairs=true/\ R .normal st'):Wp L (.draw l pairs) st R:=by
 simp only[Wp];have hr:=yP l h;split
 ·have: ∀(l:List aN) {st:St} {Q:St->List Res->Prop} {R:St->Prop},sH L l st Q->(∀s rs,Q s rs->R s)->jE L l st R:=by
   intro l
   induction l with
   |nil=>intro st Q R h k;exact k _ _ h
   |cons o l ih=>intro st Q R h k;exact mD h fun s r hs=>ih hs fun s rs hq=>k _ _ hq
  exact this l hr fun s rs ⟨_,_,h⟩=>h.2
 ·exact tZ l hr fun s rs ⟨fs,h1,h2,h3⟩=>⟨rR h1 _ h2,h3⟩
section
variable {L :bH}{Q:St->List Res->Prop}
@[go_sem] theorem bN3 (st:St):lM L [] st Q=Q st []:=(rfl)
def aBs (L:bH)(l:List aN)(dst:Option Nat)(fr:Nat->Val)(en:En)(cnt:Nat->Nat->Nat)(Q:St->List Res->Prop):Option Res->Prop
 |some r=>(r.bump&&dst.isNone)=false/\ lM L l ⟨iI fr dst r.v,W.applyAll en r.ws,if r.bump then aC cnt 0 (dst.getD 0) (cnt 0 (dst.getD 0)+1)else cnt⟩ fun s rs=>Q s ({r with v:= .dead}::rs)
 |none=>False
@[congr] theorem bF0 {r:Option Res}(h:r=r'):aBs L l dst fr en cnt Q r=aBs L l dst fr en cnt Q r':=by rw[h]
@[go_sem] theorem aVs {rs:List R}:
  aBs L l dst fr en cnt Q (some ⟨v,ws,rs,false,none,u⟩)=lM L l ⟨iI fr dst v,W.applyAll en ws,cnt⟩ fun s fs=>Q s ({v:= .dead,ws:=ws,rs:=rs,unch:=u}::fs):=by simp[aBs]
@[go_sem] theorem aK2 {rs:List R}:
  aBs L l (some d) fr en cnt Q (some ⟨v,ws,rs,true,none,u⟩)=lM L l ⟨jN fr d v,W.applyAll en ws,aC cnt 0 d (cnt 0 d+1)⟩ fun s fs=>Q s ({v:= .dead,ws:=ws,rs:=rs,bump:=true,unch:=u}::fs):=by simp[aBs,iI]
theorem aVt (h:op.plain=true):lM L (⟨dst,op,none⟩::l) ⟨fr,en,cnt⟩ Q=aBs L l dst fr en cnt Q (dE (dst.getD 0) (cnt 0 (dst.getD 0)) en (St.get fr) op):=by
 cases op<;>first|(simp[LOp.plain]at h;done)|rfl|(simp only[lM,oT,wanted,WOp,aBs];rfl)
@[go_sem] theorem bMc (h:op.plain=true):lM L (⟨some d,op,none⟩::l) ⟨fr,en,cnt⟩ Q=aBs L l (some d) fr en cnt Q (dE d (cnt 0 d) en (St.get fr) op):=aVt h
@[go_sem] theorem bMd (h:op.plain=true):lM L (⟨none,op,none⟩::l) ⟨fr,en,cnt⟩ Q=aBs L l none fr en cnt Q (dE 0 (cnt 0 0) en (St.get fr) op):=aVt h
@[go_sem] theorem bMe {f:Opd}{args:List Opd}:lM L (⟨dst,.call f args,none⟩::l) ⟨fr,en,cnt⟩ Q=
  aDp L en (St.get fr f) (args.map (St.get fr)) fun r ks=>aBs L l dst fr en cnt Q (some (iE 0 (dst.getD 0) (cnt 0 (dst.getD 0)) r ks)):=by
 simp only[lM,oT,wanted,WOp,aDp,aIh,aSk];cases St.get fr f<;>first|rfl|skip
@[go_sem] theorem bKf {f:Opd}{args:List Opd}:lM L (⟨dst,.icall f args,none⟩::l) ⟨fr,en,cnt⟩ Q=
  WIn L (St.get fr f) (args.map (St.get fr)) en cnt fun v en' cnt'=>lM L l ⟨iI fr dst v,en',cnt'⟩ fun s fs=>Q s ({v:= .dead,mem:=some (en',cnt'),unch:=fun k=>aRh (en k) (en' k)}::fs):=(rfl)
theorem aYo :lM L (⟨dst,op,some (t,b)⟩::l) ⟨fr,en,cnt⟩ Q=
  pF (fr t) b (lM L (⟨dst,op,none⟩::l) ⟨fr,en,cnt⟩ Q) (lM L l ⟨iI fr dst (.tup []),en,cnt⟩ fun s fs=>Q s ({v:= .dead}::fs)) .mk:=by
 simp only[lM,oT,wanted,pF,rQ]
 split<;>rename_i h
 ·split at h
  ·rename_i b' hb;simp only[bPo]at h;simp only[hb,h,if_true]
  ·cases h
  ·cases h
 ·split at h
  ·rename_i b' hb;simp only[bPo]at h;simp only[hb,h,bPs,if_false,true_and]
  ·rename_i hb;simp only[hb,true_and]
  ·cases h
 ·split at h
  ·cases h
  ·cases h
  ·rename_i h1 h2;split
   ·rename_i b' hb;exact absurd hb (h1 _)
   ·rename_i hb;exact absurd hb h2
   ·rfl
theorem aHk {x y:Opd}{rs:List R}(hx:cP en (St.get fr x) size xs D)(hy:iY en (St.get fr y)=some (ys,rs))(h1:cU size ys=true)(hrs:rs=[])
  (hl:xs.length+ys.length<=16777216)
  (k: ∀v en' cnt' r,cP en' v size (xs++ys) (d::D)->(∀n t g,n≠0 \/(t≠d/\ t∉D)->en' ⟨n,t,g⟩=en ⟨n,t,g⟩)->(∀n t,t≠d->cnt' n t=cnt n t)->
   (∀w∈(r:Res).ws,w.key.n=0/\ (w.key.t=d \/w.key.t∈D)/\ ∃e,w= .ent w.key e)->(∀ρ∈r.rs,ρ.key.n=0/\ ρ.key.t∈D)->r.mem=none->lM L l ⟨jN fr d v,en',cnt'⟩ fun s fs=>Q s ({r with v:= .dead}::fs)):
  lM L (⟨some d,.append size x y,none⟩::l) ⟨fr,en,cnt⟩ Q:=by
 subst hrs;rw[aVt (by rfl)]
 simp only[bQg];rcases hx with⟨hv,rfl⟩|⟨t,g,f,hv,he,ht⟩
 ·simp only[dE,eval,fT,hy,h1,if_true,hv]
  by_cases hys:ys.isEmpty=true
  ·have:ys=[]:=by simpa using hys
   subst this;simp only[List.isEmpty_nil,if_true,aVs,fV];exact k _ _ _ {v:= .dead} (.inl ⟨rfl,rfl⟩) (fun _ _ _ _=>rfl) (fun _ _ _=>rfl) (by simp) (by simp) rfl
  ·rw[if_neg hys,if_pos ⟨by simpa using hl,rfl⟩]
   simp only[aK2,kY,fV,yO]
   refine k _ _ _ {v:= .dead,ws:=[.ent ⟨0,d,cnt 0 d⟩ _],rs:=[],bump:=true} (.inr ⟨d,cnt 0 d,false,by simp,by simp[En.set],by simp⟩) (fun n t g h=>iZ (fun he=>?_)) (fun n t h=>by simp[aC,h]) (by simp[W.key]) (by simp) rfl
   injection he with h3 h4 h5
   rcases h with h|⟨h,_⟩
   ·exact h h3
   ·exact h h4
 ·simp only[dE,eval,fT,aKx,hy,h1,if_true,hv,he];rw[if_pos ⟨.inl (by simp),hl,trivial,fun h=>by cases h⟩]
  simp only[aK2,kY,fV,yO]
  refine k _ _ _ {v:= .dead,ws:=[.ent ⟨0,t,g⟩ none,.ent ⟨0,d,cnt 0 d⟩ _],rs:=[.val ⟨0,t,g⟩,.flag ⟨0,t,g⟩],bump:=true} (.inr ⟨d,cnt 0 d,f,by simp,?_,by simp⟩) (fun n t' g' h=>?_) (fun n t h=>by simp[aC,h]) (by simp[W.key,ht]) (by simp[R.key,ht]) rfl
  ·simp[En.set]
  ·have e1:(⟨n,t',g'⟩:Key)≠⟨0,d,cnt 0 d⟩:=by
    intro he;injection he with h3 h4 h5;rcases h with h|⟨h,_⟩
    ·exact h h3
    ·exact h h4
   have e2:(⟨n,t',g'⟩:Key)≠⟨0,t,g⟩:=by
    intro he;injection he with h3 h4 h5;subst h4;rcases h with h|⟨_,h⟩
    ·exact h h3
    ·exact h ht
   rw[iZ e1,iZ e2]
end
theorem bBh {k:Key}{ρ:R}:kN (.ent k e) ρ=decide (k≠ρ.key):=by cases ρ<;>rfl
theorem bBi {k:Key}{o:Nat}:kN (.cells k o vs) (.val k')=decide (k≠k'):=rfl
theorem bBj {k:Key}{o:Nat}:kN (.cells k o vs) (.flag k')=true:=rfl
theorem bBk {k:Key}{o o' n:Nat}:kN (.cells k o vs) (.cells k' o' n)=(decide (k≠k')||decide (o+vs.length<=o')||decide (o'+n<=o)):=rfl
theorem bBl {k:Key}{w:W}:nH (.ent k e) w=decide (k≠w.key):=by cases w<;>rfl
theorem bBm {k:Key}{o:Nat}:nH (.cells k o vs) (.ent k' e)=decide (k≠k'):=rfl
theorem bBn {k:Key}{o o':Nat}{vs':List Val}:nH (.cells k o vs) (.cells k' o' vs')=(decide (k≠k')||decide (o+vs.length<=o')||decide (o'+vs'.length<=o)):=rfl
theorem bKg {n:Nat}(h:t≠t'):((⟨n,t,g⟩:Key)≠⟨n',t',g'⟩)=True:=by simp[h]
attribute [go_sem] dP aEy bBh bBi bBj bBk bBl bBm bBn bKg W.key R.key bRx aYo
def nV (P:Program)(F:TypeId->List Val->Prop):List Field->List Val->Prop
 |[],vs=>vs=[]
 |f::fs,vs=> ∃a b,vs=a++b/\ a.length=P.cellsOf f.type/\ F f.type a/\ nV P F fs b
def sX (P:Program)(t:TypeId)(vs:List Val):Val:=if dB P t then .agg vs else vs.getD 0 .dead
def jZ (P:Program):Nat->TypeId->List Val->Prop
 |0,_,_=>False
 |n+1,t,vs=>
  match P.underlying t with
  |some .bool=> ∃b,vs=[.bool b]
  |some (.int k)=> ∃i,vs=[.int k i]/\ (Lit.int k i).wf=true
  |some .string=> ∃s:ByteArray,vs=[.str s]/\ s.size<=maxLen
  |some (.slice e)=> ∃xs:List (List Val),vs=[.fz (xs.map (sX P e))]/\ xs.length<=maxLen/\ ∀x∈xs,jZ P n e x
  |some (.struct fs)=>nV P (jZ P n) fs.toList vs
  |_=>True
def aSq (P:Program)(S:TypeId->Bool):Bool:=(List.range P.types.size).all fun t=>!S t||match P.underlying t with
 |some (.slice e)=>P.cellsOf e !=0&&S e
 |some (.struct fs)=>fs.toList.all fun f=>S f.type
 |some (.array ..)=>false
 |_=>true
def aIi (w:World):Nat->Nat->Prop:=fun b _=>b<w.heap.size
variable {w:World}{P:Program}
section
variable {H :Type}{enc:TypeId×Value->H}{sp:Nat->Bool}
def mZ (w:World)(vs:List Val)(cs:List Value):Prop:=
 vs.length=cs.length/\ ∀i,i<cs.length->fU (cs.getD i undef)=true/\ VR (aIi w) Gh.none w (vs.getD i .dead) (cs.getD i undef)
theorem mZ.nil :mZ w [] []:=⟨rfl,fun i hi=>by simp at hi⟩
theorem mZ.one {c:Value}(h:VR (aIi w) Gh.none w v c)(ho:fU c=true):mZ w [v] [c]:=by
 refine⟨rfl,fun i hi=>?_⟩
 have:i=0:=by simp at hi;omega
 subst this;exact⟨ho,h⟩
theorem mZ.append {b:List Val}{c d:List Value}(h:mZ w a c)(k:mZ w b d):mZ w (a++b) (c++d):=by
 refine⟨by simp[h.1,k.1],fun i hi=>?_⟩
 simp only[bPu,bSh];rw[h.1];split
 ·rename_i hlt;have:=h.2 i hlt;simpa[bPu]using this
 ·have:=k.2 (i-c.length) (by simp at hi;omega);simpa[bPu]using this
theorem not_agg {c:Value}(h:VR (aIi w) Gh.none w v c)(ho:fU c=true):v.cells=[v]/\ v.one=true:=by
 cases h<;>first|exact⟨rfl,rfl⟩|(simp[fU]at ho)
theorem aIj (n:Nat)(F:TypeId->List Val->Prop): ∀(fs:List Field) (cs:List Value),cs.length=(fs.map fun f=>P.cellsOf f.type).sum->
  (∀(j:Nat) f,fs[j]?=some f-> ∃vs,F f.type vs/\ mZ w vs ((cs.drop ((fs.take j).map fun f=>P.cellsOf f.type).sum).take (P.cellsOf f.type)))->
  ∃vs,nV P F fs vs/\ mZ w vs cs
 |[],cs,hl,_=>by
  have:cs=[]:=by simpa using hl
  subst this;exact⟨[],rfl,mZ.nil⟩
 |f::fs,cs,hl,h=>by
  simp only[bQj,List.sum_cons]at hl;obtain⟨a,ha,hra⟩:=h 0 f rfl;simp only[bPw,bP1,List.sum_nil,bRy]at hra;obtain⟨b,hb,hrb⟩:=aIj n F fs (cs.drop (P.cellsOf f.type)) (by simp;omega) (fun j g hj=>by
   obtain⟨vs,h1,h2⟩:=h (j+1) g (by simpa using hj)
   refine⟨vs,h1,?_⟩
   simpa[List.drop_drop]using h2)
  refine⟨a++b,⟨a,b,rfl,?_,ha,hb⟩,?_⟩
  ·rw[hra.1];simp;omega
  ·have:=mZ.append hra hrb
   rwa [List.take_append_drop]at this
theorem aSr (b o i:Nat):(⟨b,o,none⟩:Addr).add i=⟨b,o+i,none⟩:=by
 unfold Addr.add;split
 ·rename_i h;subst h;rfl
 ·rfl
theorem uA {a:Addr}{n:Nat}{cs:List Value}(h:w.cells? 0 a n=some cs):cs.length=n/\ ∀j,j<n->w.cell? (a.add j)=some (cs.getD j undef):=by
 unfold World.cells? at h;rw[if_pos (bPx _)]at h;have h1:=mapM_some_length h
 refine⟨by simpa using h1,fun j hj=>?_⟩
 have h2:=mapM_some_get h j j (by simp[hj])
 rw[h2];have:j<cs.length:=by rw[h1];simpa using hj
 simp[bPu,this]
theorem aYp (hl:laidOutB P=true)(S:TypeId->Bool)(hz:aSq P S=true): ∀(fuel:Nat) (t:TypeId) (cs:List Value) (x:DataW H×List MemPlace),t<P.types.size->S t=true->DataW.trod enc P w 0 sp true fuel t cs=some x->
  ∃vs,jZ P fuel t vs/\ mZ w vs cs:=by
 intro fuel
 induction fuel with
 |zero=>intro t cs x _ _ h;simp[DataW.trod]at h
 |succ n ih=>
  intro t cs x ht hs h;have hz0:=bPv.1 hz t (bQl.2 ht);simp only[hs,bP3,bQp]at hz0;cases hu:P.underlying t with
  |none=>simp[DataW.trod,hu]at h
  |some u=>
   have dead: ∀c:Value,cs=[c]->fU c=true-> ∃vs:List Val,True/\ mZ w vs cs:=by
    rintro c rfl ho;exact⟨[.dead],trivial,mZ.one (.dead c ho) ho⟩
   have gen:(∃c,cs=[c]/\ fU c=true)->(match u with| .bool| .int _| .string| .slice _| .struct _| .array .. =>False|_=>True)-> ∃vs,jZ P (n+1) t vs/\ mZ w vs cs:=by
    rintro⟨c,rfl,ho⟩ hk
    refine⟨[.dead],?_,mZ.one (.dead c ho) ho⟩
    simp only[jZ,hu];cases u<;>first|trivial|exact hk.elim
   cases u with
   |bool=>
    simp only[DataW.trod,hu]at h
    split at h<;>first|(cases h;done)|skip
    all_goals first|(rename_i h1;cases h1;done)|skip
    rename_i b h1;exact⟨[.bool b],by simp only[jZ,hu];exact⟨b,rfl⟩,mZ.one (.bool b) rfl⟩
   |int k=>
    simp only[DataW.trod,hu]at h
    split at h<;>first|(cases h;done)|skip
    all_goals first|(rename_i h1;cases h1;done)|skip
    rename_i k0 k' i h1;cases h1
    split at h
    ·rename_i hk;obtain⟨rfl,hw⟩:=hk;exact⟨[.int _ i],by simp only[jZ,hu];exact⟨i,rfl,hw⟩,mZ.one (.int _ i) rfl⟩
    ·cases h
   |string=>
    simp only[DataW.trod,hu]at h
    split at h<;>first|(cases h;done)|skip
    all_goals first|(rename_i h1;cases h1;done)|skip
    rename_i s h1
    split at h
    ·rename_i hs;exact⟨[.str s],by simp only[jZ,hu];exact⟨s,rfl,hs⟩,mZ.one (.str s) rfl⟩
    ·cases h
   |slice e=>
    simp only[hu,bPp]at hz0;have he:P.cellsOf e≠0:=by simpa using hz0.1
    have hSe:S e=true:=hz0.2;have hke:e<P.types.size:=kid_slice hl ht hu;rcases DataW.trod_slice hu h with⟨rfl,rfl⟩|⟨a,len,cap,elems,jR,m,hm,rfl,rfl,_,hlc,hcm,hel,hall⟩
    ·exact⟨[.fz []],by simp only[jZ,hu];exact⟨[],rfl,bPx _,by simp⟩,mZ.one (.fz0 _ _) rfl⟩
    ·cases hm
     replace hall:=hall.1
     have each: ∀i,i<len-> ∃csi vsi,w.cells? 0 (a.add (i*P.cellsOf e)) (P.cellsOf e)=some csi/\ jZ P n e vsi/\ mZ w vsi csi:=by
      intro i hi;have h1:=hall i hi;have hlt:i<elems.length:=by omega
      rw[bQz hlt]at h1;simp only[bP4]at h1;obtain⟨csi,h2,h3⟩:=h1;obtain⟨vsi,h4,h5⟩:=ih e csi _ hke hSe h3;exact⟨csi,vsi,h2,h4,h5⟩
     let C (i:Nat):List Value:=if hi:i<len then(each i hi).choose else []
     let V (i:Nat):List Val:=if hi:i<len then(each i hi).choose_spec.choose else []
     have hCV: ∀i,i<len->w.cells? 0 (a.add (i*P.cellsOf e)) (P.cellsOf e)=some (C i)/\ jZ P n e (V i)/\ mZ w (V i) (C i):=by
      intro i hi;have:=(each i hi).choose_spec.choose_spec;simp only[C,V,dif_pos hi];exact this
     have hpk: ∀i,i<len->(sX P e (V i)).cells=V i:=by
      intro i hi;obtain⟨h1,h2,h3⟩:=hCV i hi;unfold sX;split
      ·rfl
      ·rename_i hagg;have hlen:(V i).length=1:=by
        rw[h3.1,(uA h1).1];have hr:=rowFine_of hl hke;unfold dB at hagg;have hvar:isVar P e=true:=by
         have:=rowFine_of hl ht;simp only[rowFine,hu]at this;have hv:isVar P t=true:=by simp[isVar,ht,hu,kindOk]
         simp only[hv,bP3,bQp,bPp]at this;exact this.1
        simp only[rowFine,hvar,bP3,bQp]at hr
        split at hr<;>first|(rename_i h';rw[h']at hagg;simp at hagg;done)|(simp only[bPp,beq_iff_eq]at hr;exact hr.2)|(simpa using hr)
       obtain⟨v,hv⟩:=List.length_eq_one_iff.1 hlen;have h4:=h3.2 0 (by rw[<-h3.1,hlen];omega)
       rw[hv]at h4⊢;simp only[bSq]at h4⊢;exact(not_agg h4.2 h4.1).1
     refine⟨[.fz ((List.range len).map fun i=>sX P e (V i))],?_,?_⟩
     ·simp only[jZ,hu]
      refine⟨(List.range len).map V,by simp[Function.comp_def],by simp;omega,fun x hx=>?_⟩
      obtain⟨i,hi,rfl⟩:=bQk.1 hx;exact(hCV i (by simpa using hi)).2.1
     ·refine mZ.one ?_ rfl
      by_cases h0:len=0
      ·subst h0;exact .fz0 _ _
      ·have hsp:a.spot=none:=by
        have:=(uA (hCV 0 (by omega)).1).2 0 (by omega)
        unfold World.cell? at this
        split at this
        ·rename_i hh
         split at this
         ·cases this
         ·rename_i hs;simpa[Addr.add]using hs
        ·cases this
       obtain⟨blk,off,spt⟩:=a
       simp only at hsp
       subst hsp;have hg: ∀i,i<len->((List.range len).map fun i=>sX P e (V i)).getD i .dead=sX P e (V i):=by
        intro i hi;simp[bPu,hi]
       have hcell: ∀i j,i<len->j<P.cellsOf e->w.cell? ⟨blk,off+i*P.cellsOf e+j,none⟩=some ((C i).getD j undef):=by
        intro i j hi hj;have:=(uA (hCV i hi).1).2 j hj;rw[aSr,aSr]at this;exact this
       have:=VR.fz (T:=aIi w) (G:=Gh.none) (w:=w) ((List.range len).map fun i=>sX P e (V i)) blk off (P.cellsOf e) cap (fun i j=>(C i).getD j undef)
        (by simpa using hlc) (fun i hi=>by
         have hi':i<len:=by simpa using hi
         rw[hg i hi',hpk i hi',(hCV i hi').2.2.1,(uA (hCV i hi').1).1])
        (fun i j hi hj=>hcell i j (by simpa using hi) hj)
        (fun i j hi hj=>by
         have:=hcell i j (by simpa using hi) hj
         unfold World.cell? at this
         split at this
         ·rename_i hh;exact(bRh.1 hh).1
         ·cases this)
        (fun i j hi hj=>by
         have hi':i<len:=by simpa using hi
         exact((hCV i hi').2.2.2 j (by rw[(uA (hCV i hi').1).1];exact hj)).1)
        (fun i j hi hj=>by
         have hi':i<len:=by simpa using hi
         rw[hg i hi',hpk i hi'];exact((hCV i hi').2.2.2 j (by rw[(uA (hCV i hi').1).1];exact hj)).2)
       simpa using this
   |struct fs=>
    obtain⟨xs,m,hm,_,hlen,hxl,hall⟩:=DataW.trod_struct hu h;cases hm;obtain⟨k1,k2,k3⟩:=kid_struct hl ht hu;obtain⟨vs,h1,h2⟩:=aIj (P:=P) (w:=w) n (jZ P n) fs.toList cs (by rw[hlen,k2]) (fun j f hj=>by
     have h3:=hall j f (by simpa using hj)
     have hj':j<xs.length:=by rw[hxl];exact(by simpa using(bS9.1 hj).1)
     rw[bQz hj']at h3;rw[k3 j f hj]at h3;exact ih _ _ _ (k1 f (List.mem_of_getElem? hj)) (by simp only[hu]at hz0;exact bPv.1 hz0 f (List.mem_of_getElem? hj)) h3)
    exact⟨vs,by simp only[jZ,hu];exact h1,h2⟩
   |array k e=>
    simp[hu]at hz0
   |_=>
    refine gen ?_ trivial
    simp only[DataW.trod,hu]at h
    first
    |(cases h;done)
    |(split at h<;>first|(cases h;done)|exact⟨_,rfl,rfl⟩|(rename_i h1;cases h1;done)|(rename_i h1 _;cases h1;done))
end
section
variable {n:Nat}{t:TypeId}
theorem jF (hu:P.underlying t=some (.int k))(h:jZ P (n+1) t vs): ∃i,vs=[.int k i]:=by
 simp only[jZ,hu]at h;obtain⟨i,h,_⟩:=h;exact⟨i,h⟩
theorem aSs (hu:P.underlying t=some .string)(h:jZ P (n+1) t vs): ∃s:ByteArray,vs=[.str s]/\ Few s.size:=by
 simp only[jZ,hu]at h;obtain⟨s,h,k⟩:=h;exact⟨s,h,by unfold Few;unfold maxLen at k;omega⟩
theorem aW8 {α:Type}(enc:α->Val)(Q:α->Prop)(f:List Val->Val): ∀(xs:List (List Val)),(∀x∈xs,∃a,f x=enc a/\ Q a)-> ∃l:List α,xs.map f=l.map enc/\ l.length=xs.length/\ ∀a∈l,Q a
 |[],_=>⟨[],rfl,rfl,by simp⟩
 |x::xs,h=>by
  obtain⟨a,ha,hq⟩:=h x (by simp)
  obtain⟨l,h1,h2,h3⟩:=aW8 enc Q f xs fun y hy=>h y (by simp[hy])
  exact⟨a::l,by simp[ha,h1],by simp[h2],fun b hb=>by rcases bQm.1 hb with rfl|hb;exact hq;exact h3 b hb⟩
theorem kZ (enc:α->Val)(Q:α->Prop){e:TypeId}(hu:P.underlying t=some (.slice e))(hel: ∀x,jZ P n e x-> ∃a,sX P e x=enc a/\ Q a)(h:jZ P (n+1) t vs):
  ∃l:List α,vs=[.fz (l.map enc)]/\ Few l.length/\ ∀a∈l,Q a:=by
 simp only[jZ,hu]at h;obtain⟨xs,h,hl,hx⟩:=h;obtain⟨l,h1,h2,h3⟩:=aW8 enc Q (sX P e) xs fun x hm=>hel x (hx x hm)
 exact⟨l,by rw[h,h1],by rw[h2];unfold Few;unfold maxLen at hl;omega,h3⟩
theorem iT {fs:Array Field}(hu:P.underlying t=some (.struct fs))(h:jZ P (n+1) t vs):nV P (jZ P n) fs.toList vs:=by
 simp only[jZ,hu]at h;exact h
theorem aIk {F F':TypeId->List Val->Prop}(h: ∀t vs,F t vs->F' t vs): ∀(fs:List Field) (vs:List Val),nV P F fs vs->nV P F' fs vs
 |[],vs,k=>k
 |f::fs,vs,⟨a,b,h1,h2,h3,h4⟩=>⟨a,b,h1,h2,h _ _ h3,aIk h fs b h4⟩
theorem aHl : ∀(n:Nat) (t:TypeId) (vs:List Val),jZ P n t vs->jZ P (n+1) t vs
 |0,t,vs,h=>by simp[jZ]at h
 |n+1,t,vs,h=>by
  rw[jZ]at h⊢;split
  ·rename_i hu;rw[hu]at h;exact h
  ·rename_i hu;rw[hu]at h;exact h
  ·rename_i hu;rw[hu]at h;exact h
  ·rename_i hu;rw[hu]at h;obtain⟨xs,h1,h2,h3⟩:=h;exact⟨xs,h1,h2,fun x hx=>aHl n _ _ (h3 x hx)⟩
  ·rename_i hu;rw[hu]at h;exact aIk (aHl n) _ _ h
  ·trivial
theorem aYq (k:Nat)(h:jZ P n t vs):jZ P (n+k) t vs:=by
 induction k with
 |zero=>exact h
 |succ k ih=>exact aHl _ _ _ ih
theorem aP5 {x:Array Value}(h:mZ w vs x.toList):VR (aIi w) Gh.none w (.agg vs) (.agg x):=by
 have e: ∀i,x.getD i undef=x.toList.getD i undef:=by
  intro i;simp[bP6,bPu]
 have hl:vs.length=x.size:=by simpa using h.1
 refine .agg vs x hl.symm (fun i hi=>?_) fun i hi=>?_
 ·rw[e];exact(h.2 i (by rw[bRz];omega)).1
 ·rw[e];exact(h.2 i (by rw[bRz];omega)).2
end
theorem cA {L:bH}{R:Ex->St->Prop}(h:jE L l st (R .normal)):Wp L (.opsP l) st R:= .inl h
theorem dK {L:bH}{R:Ex->St->Prop}(k:Nat){o:aN}(hk:l[k]?=some o)(h:jE L (l.take k) st fun st1=>lL L o st1 fun v st2=>R (.panic v) st2):Wp L (.opsP l) st R:= .inr ⟨k,o,hk,h⟩
theorem jQ {L:bH}{R:Ex->St->Prop}
  (h:lM L l st fun st' rs=>dP rs pairs=true/\ R .normal st'):Wp L (.drawP l an pairs) st R:=
 .inl (tZ l (yP l h) fun s rs ⟨fs,h1,h2,h3⟩=>⟨rR h1 _ h2,h3⟩)
theorem aW9 {L:bH}: ∀(l:List aN) {st:St} {Q:St->List Res->Prop} {R:St->Prop},sH L l st Q->(∀s rs,Q s rs->R s)->jE L l st R
 |[],st,Q,R,h,k=>k _ _ h
 |o::l,st,Q,R,h,k=>mD h fun s r hs=>aW9 l hs fun s rs hq=>k _ _ hq
def mvC (o:aN):Bool:=o.guard.isNone&&(match o.op with| .mv (.c _)=>true|_=>false)
def aFn (an:List (List Nat))(j:Nat)(l:List aN):Bool:=
 (List.range l.length).all fun i=>if i<j then !behind an j i&&!aAu an j l i else behind an j i||((aAu an j l i||mvC (l.getD i default))&&(l.getD i default).dst.all fun d=>!(l.getD j default).uses.contains d)
def aEg (an:List (List Nat))(j:Nat)(l:List aN):List aN:=(List.range (l.length-j)).map fun i=>(dC an j l).getD (j+i) default
theorem bBo (h:aFn an j l=true)(hj:j<=l.length):dC an j l=l.take j++aEg an j l:=by
 refine List.ext_getElem (by simp[dC,aEg];omega) fun i h1 h2=>?_
 have hi:i<l.length:=by simpa[dC]using h1
 have hb:=bPv.1 h i (bQl.2 hi)
 by_cases hji:i<j
 ·rw[List.getElem_append_left (by simp;omega)]
  simp only[hji,if_true,bPp,bQ2]at hb;simp[dC,hb.1,hb.2,bPu,hi]
 ·rw[List.getElem_append_right (by simp;omega)]
  have e1:(l.take j).length=j:=by simp;omega
  simp only[e1,aEg,List.getElem_map,List.getElem_range,Nat.add_sub_cancel' (by omega:j<=i)]
  simp[bPu,h1]
theorem aYr (h:aFn an j l=true)(hj:j<=l.length):
  ∀o∈aEg an j l,o=aBa \/ ∃x∈l,∃v,o={dst:=x.dst,op:= .mv (.c v),guard:=none}/\ ∀d,x.dst=some d->d∉(l.getD j default).uses:=by
 intro o ho;simp only[aEg,bQk,bQl]at ho;obtain⟨i,hi,rfl⟩:=ho;have hb:=bPv.1 h (j+i) (bQl.2 (by omega))
 have hnj: ¬j+i<j:=by omega
 simp only[hnj,if_false]at hb;have e:(dC an j l).getD (j+i) default=if behind an j (j+i)=true then aBa else if aAu an j l (j+i)=true then aH2 (l.getD (j+i) default)else l.getD (j+i) default:=by
  simp[dC,bPu,show j+i<l.length by omega]
 rw[e];have hmem:l.getD (j+i) default∈l:=by
  rw[bPu,bQz (by omega)]
  exact bPz _
 by_cases hbe:behind an j (j+i)=true
 ·rw[if_pos hbe];exact .inl rfl
 ·rw[if_neg hbe];simp only[bQ0]at hbe;rw[hbe,bQp,bPp,bQy]at hb;have huse: ∀d,(l.getD (j+i) default).dst=some d->d∉(l.getD j default).uses:=fun d hd=>by
   have:=hb.2;rw[hd]at this
   simpa using this
  by_cases hlo:aAu an j l (j+i)=true
  ·rw[if_pos hlo];exact .inr ⟨_,hmem,.dead,rfl,huse⟩
  ·rw[if_neg hlo];have hm:=hb.1.resolve_left hlo;simp only[mvC,bPp,bSt]at hm;generalize l.getD (j+i) default=o at hm huse hmem⊢;obtain⟨od,oo,og⟩:=o;obtain⟨hg,ho⟩:=hm
   simp only at hg ho
   subst hg
   split at ho
   ·rename_i v;exact .inr ⟨_,hmem,v,rfl,huse⟩
   ·cases ho
def sI :Res:={v:= .dead}
theorem aK3 {L:bH}: ∀(l m:List aN) {st:St} {Q:St->List Res->Prop},(sH L l st fun s rs=>sH L m s fun s' rs'=>Q s' (rs++rs'))->sH L (l++m) st Q
 |[],m,st,Q,h=>h
 |o::l,m,st,Q,h=>mD h fun s r hs=>aK3 l m hs
theorem aSt {L:bH}{U:Nat->Prop}{D:Nat->Prop}: ∀(m:List aN),(∀o∈m,o=aBa \/ ∃d v,o={dst:=d,op:= .mv (.c v),guard:=none}/\ ∀t,d=some t-> ¬U t/\ D t)-> ∀{st:St} {Q:St->List Res->Prop},
  (∀s rs,s.en=st.en->s.cnt=st.cnt->(∀t,U t->s.fr t=st.fr t)->(∀t,¬D t->s.fr t=st.fr t)->mY (List.replicate m.length sI) rs->Q s rs)->sH L m st Q
 |[],_,st,Q,h=>h st [] rfl rfl (fun _ _=>rfl) (fun _ _=>rfl) trivial
 |o::m,hm,st,Q,h=>by
  have ih: ∀(st1:St) (r:Res),st1.en=st.en->st1.cnt=st.cnt->(∀t,U t->st1.fr t=st.fr t)->(∀t,¬D t->st1.fr t=st.fr t)->sI={r with v:= .dead}->sH L m st1 fun s rs=>Q s (r::rs):=fun st1 r a1 a2 a3 a4 a5=>
   aSt m (fun o ho=>hm o (bRu _ ho)) fun s rs b1 b2 b3 b4 b5=>h s (r::rs) (b1.trans a1) (b2.trans a2) (fun t ht=>(b3 t ht).trans (a3 t ht)) (fun t ht=>(b4 t ht).trans (a4 t ht)) ⟨a5,b5⟩
  rcases hm o (by simp)with rfl|⟨d,v,rfl,hd⟩
  ·exact⟨rfl,ih st _ rfl rfl (fun _ _=>rfl) (fun _ _=>rfl) rfl⟩
  ·refine⟨rfl,ih _ _ rfl rfl (fun t ht=>?_) (fun t ht=>?_) rfl⟩
   ·exact pV fun x hx e=>(hd x hx).1 (e▸ht)
   ·exact pV fun x hx e=>ht (e▸(hd x hx).2)
theorem aSu : ∀{fs rs fs' rs':List Res},mY fs rs->mY fs' rs'->mY (fs++fs') (rs++rs')
 |[],[],_,_,_,h=>h
 |a::l,b::m,_,_,h,k=>⟨h.1,aSu h.2 k⟩
 |[],_::_,_,_,h,_=>h.elim
 |_::_,[],_,_,h,_=>h.elim
theorem aVu {L:bH}{o:aN}{s:St}{K:Val->St->Prop}(h:lL L o st K)(he:s.en=st.en)(hc:s.cnt=st.cnt)(hf: ∀t∈o.uses,s.fr t=st.fr t):
  lL L o s fun v s2=>K v ⟨st.fr,s2.en,s2.cnt⟩/\ s2.fr=s.fr:=by
 have hw:wanted s.fr o.guard=wanted st.fr o.guard:=by
  cases hg:o.guard with
  |none=>rfl
  |some p=>
   obtain⟨t,b⟩:=p;simp only[wanted];rw[hf t (by simp[aN.uses,hg])]
 have hgt: ∀x∈o.op.opds,St.get s.fr x=St.get st.fr x:=by
  intro x hx;cases x with
  |t i=>exact hf i (by simp only[aN.uses,bQe,bQ3];exact .inl ⟨_,hx,by simp[Opd.tmp]⟩)
  |c v=>rfl
  |f i=>rfl
  |m tbl i=>simp only[St.get];rw[hf i (by simp only[aN.uses,bQe,bQ3];exact .inl ⟨_,hx,by simp[Opd.tmp]⟩)]
 obtain⟨fr,en,cnt⟩:=st;obtain⟨fr2,en2,cnt2⟩:=s
 simp only at he hc
 subst he hc;unfold lL at h⊢;rw[hw]
 split at h
 case h_2=>cases h
 split at h
 ·rename_i x hop;simp only[hop]at hgt⊢;rw[hgt x (by simp[LOp.opds])]
  split at h
  case h_2=>cases h
  rename_i t u hu;rw[hu];exact⟨h.1,h.2,by first|rfl|trivial⟩
 ·rename_i f args hop;simp only[hop]at hgt⊢;rw[hgt f (by simp[LOp.opds]),show args.map (St.get fr2)=args.map (St.get fr)from bRw fun p hp=>hgt p (by simp[LOp.opds,hp])]
  split at h
  case h_2=>cases h
  rename_i f' a b hf1 hf2
  split at h
  case h_2=>cases h
  rename_i rs hrs;obtain⟨v,h1,h2⟩:=h;rw[hf1,hf2];simp only[hrs];exact⟨v,h1,h2,by first|rfl|trivial⟩
 ·rename_i f args hop;simp only[hop]at hgt⊢;rw[hgt f (by simp[LOp.opds]),show args.map (St.get fr2)=args.map (St.get fr)from bRw fun p hp=>hgt p (by simp[LOp.opds,hp])]
  split at h
  case h_2=>cases h
  rename_i f' a b hf1;rw[hf1];exact h.mono fun v en' cnt' hk=>⟨hk,by first|rfl|trivial⟩
 ·cases h
theorem aEh (h:mY fs rs)(hp:jO an j l fs=true):jO an j l rs=true:=by
 unfold jO at hp⊢
 refine bPv.2 fun i hi=>?_
 have:=bPv.1 hp i hi;simp only[bQy]at this⊢
 refine this.imp id fun h2=>?_
 rcases aBr h i with⟨a1,_⟩|⟨b,a1,a2⟩
 ·rw[a1]at h2;cases h2
 ·rw[a1]at h2;rw[a2];exact h2
theorem aXa {L:bH}{C:List Res->Prop}{R:Val->St->Prop}(j:Nat){o:aN}(hj:l[j]?=some o)(ht:aFn an j l=true)(hC: ∀fs rs,mY fs rs->C fs->C rs)
  (h:lM L (l.take j) st fun st1 fs=>C (fs++List.replicate (l.length-j) sI)/\ lL L o st1 fun v st2=>R v ⟨fun t=>if mR l t then .tup []else st2.fr t,st2.en,st2.cnt⟩):
  (jE L (l.take j) st fun s=>lL L o s fun _ _=>True)/\ sH L (dC an j l) st fun st1 rs=>C rs/\ lL L o st1 fun v st2=>R v ⟨fun t=>if mR l t then .tup []else st2.fr t,st2.en,st2.cnt⟩:=by
 have hjl:j<l.length:=(bS9.1 hj).1;have hr:=yP _ h
 refine⟨aW9 _ hr fun s rs ⟨_,_,_,h3⟩=>uX h3 fun _ _ _=>trivial,?_⟩
 rw[bBo ht (by omega)]
 have hoj:l.getD j default=o:=by simp[bPu,hj]
 have htl:(aEg an j l).length=l.length-j:=by simp[aEg]
 refine aK3 _ _ (tZ _ hr fun s rs ⟨fs,h1,h2,h3⟩=>aSt (U:=fun t=>t∈o.uses) (D:=fun t=>mR l t=true) _ (fun x hx=>?_) fun s' rs' a1 a2 a3 a4 a5=>⟨?_,?_⟩)
 ·refine(aYr ht (by omega) x hx).imp id ?_
  rintro⟨y,hy,v,rfl,hd⟩
  refine⟨y.dst,v,rfl,fun t e=>⟨by rw[<-hoj];exact hd t e,?_⟩⟩
  simp only[mR,bSn,beq_iff_eq];exact⟨y,hy,e⟩
 ·rw[htl]at a5;exact hC _ _ (aSu h1 a5) h2
 ·refine uX (aVu h3 a1 a2 a3) ?_
  rintro v s2 ⟨hk,e⟩
  have:(fun t=>if mR l t then Val.tup []else s.fr t)=fun t=>if mR l t then Val.tup []else s2.fr t:=by
   funext t
   by_cases hd:mR l t=true
   ·rw[if_pos hd,if_pos hd]
   ·rw[if_neg hd,if_neg hd,e,a4 t hd]
  rw[this]at hk;exact hk
theorem mF {L:bH}{R:Ex->St->Prop}(j:Nat){o:aN}(hj:l[j]?=some o)(ht:aFn an j l=true)
  (h:lM L (l.take j) st fun st1 fs=>(dP (fs++List.replicate (l.length-j) sI) pairs&&jO an j l (fs++List.replicate (l.length-j) sI))=true/\
   lL L o st1 fun v st2=>R (.panic v) ⟨fun t=>if mR l t then .tup []else st2.fr t,st2.en,st2.cnt⟩):Wp L (.drawP l an pairs) st R:=by
 obtain⟨h1,h2⟩:=aXa (R:=fun v st=>R (.panic v) st) (C:=fun fs=>(dP fs pairs&&jO an j l fs)=true) j hj ht (fun fs rs hs hc=>by
  rw[bPp]at hc⊢;exact⟨rR hs _ hc.1,aEh hs hc.2⟩) h
 exact .inr ⟨j,o,hj,h1,h2⟩
theorem bBp {L:bH}{R:Ex->St->Prop}(j:Nat)(m:List aN){o:aN}(hj:l[j]?=some o)(hm:dC an j l=m)
  (h1:jE L (l.take j) st fun s=>lL L o s fun _ _=>True)
  (h2:lM L m st fun st1 fs=>(dP fs pairs&&jO an j l fs)=true/\ lL L o st1 fun v st2=>R (.panic v) ⟨fun t=>if mR l t then .tup []else st2.fr t,st2.en,st2.cnt⟩):Wp L (.drawP l an pairs) st R:=by
 refine .inr ⟨j,o,hj,h1,?_⟩
 rw[hm];exact tZ m (yP m h2) fun s rs ⟨fs,hs,hc,h3⟩=>⟨by
  rw[bPp]at hc⊢;exact⟨rR hs _ hc.1,aEh hs hc.2⟩,h3⟩
variable {A:Nat}
theorem aOb {k:Key}(h:mY fs rs)(hp:pI an A k fs=true):pI an A k rs=true:=by
 have hlen:fs.length=rs.length:=by
  clear hp
  induction fs generalizing rs with
  |nil=>cases rs with
   |nil=>rfl
   |cons=>exact h.elim
  |cons f fs ih=>cases rs with
   |nil=>exact h.elim
   |cons r rs=>simp only[bPy];rw[ih h.2]
 unfold pI at hp⊢
 refine bPv.2 fun i hi=>?_
 have:=bPv.1 hp i (by rwa [hlen])
 simp only[bQy]at this⊢
 refine this.imp id fun h2=>?_
 rcases aBr h i with⟨a1,_⟩|⟨b,a1,a2⟩
 ·rw[a1]at h2;cases h2
 ·rw[a1]at h2;rw[a2];exact h2
theorem oV {L:bH}{R:Ex->St->Prop}(hA:l[A]?=some {dst:=some d,op:= .alloc z,guard:=none})
  (h:lM L (l.set A {dst:=some d,op:= .mv (.c (.ptr ⟨0,d,cnt 0 d⟩ 0)),guard:=none}) ⟨fr,en.set ⟨0,d,cnt 0 d⟩ (some (.box z false)),aC cnt 0 d (cnt 0 d+1)⟩ fun st' rs=>dP rs pairs=true/\ pI an A ⟨0,d,cnt 0 d⟩ rs=true/\ R .normal st'):
  Wp L (.drawL l an pairs A) ⟨fr,en,cnt⟩ R:=by
 have hg:l.getD A default={dst:=some d,op:= .alloc z,guard:=none}:=by rw[bPu,hA];rfl
 have hL:jJ A ⟨0,d,cnt 0 d⟩ l=l.set A {dst:=some d,op:= .mv (.c (.ptr ⟨0,d,cnt 0 d⟩ 0)),guard:=none}:=by unfold jJ aAv;rw[hg]
 have hK:iP ⟨fr,en,cnt⟩ {dst:=some d,op:= .alloc z,guard:=none}=⟨0,d,cnt 0 d⟩:=rfl
 refine .inl ?_
 rw[hg,hK,hL];exact tZ _ (yP _ h) fun s rs ⟨fs,h1,h2,h3,h4⟩=>⟨by rw[bPp];exact⟨rR h1 _ h2,aOb h1 h3⟩,h4⟩
theorem aSv {L:bH}{R:Ex->St->Prop}(hA:l[A]?=some {dst:=some d,op:= .alloc z,guard:=none})(j:Nat){o:aN}
  (hj:(l.set A {dst:=some d,op:= .mv (.c (.ptr ⟨0,d,cnt 0 d⟩ 0)),guard:=none})[j]?=some o) (ht:aFn an j (l.set A {dst:=some d,op:= .mv (.c (.ptr ⟨0,d,cnt 0 d⟩ 0)),guard:=none})=true)
  (h:lM L ((l.set A {dst:=some d,op:= .mv (.c (.ptr ⟨0,d,cnt 0 d⟩ 0)),guard:=none}).take j) ⟨fr,en.set ⟨0,d,cnt 0 d⟩ (some (.box z false)),aC cnt 0 d (cnt 0 d+1)⟩ fun st1 fs=>
   ((dP (fs++List.replicate ((l.set A {dst:=some d,op:= .mv (.c (.ptr ⟨0,d,cnt 0 d⟩ 0)),guard:=none}).length-j) sI) pairs&&
    jO an j (l.set A {dst:=some d,op:= .mv (.c (.ptr ⟨0,d,cnt 0 d⟩ 0)),guard:=none}) (fs++List.replicate ((l.set A {dst:=some d,op:= .mv (.c (.ptr ⟨0,d,cnt 0 d⟩ 0)),guard:=none}).length-j) sI))&&
    pI an A ⟨0,d,cnt 0 d⟩ (fs++List.replicate ((l.set A {dst:=some d,op:= .mv (.c (.ptr ⟨0,d,cnt 0 d⟩ 0)),guard:=none}).length-j) sI))=true/\
   lL L o st1 fun v st2=>R (.panic v) ⟨fun t=>if mR (l.set A {dst:=some d,op:= .mv (.c (.ptr ⟨0,d,cnt 0 d⟩ 0)),guard:=none}) t then .tup []else st2.fr t,st2.en,st2.cnt⟩):
  Wp L (.drawL l an pairs A) ⟨fr,en,cnt⟩ R:=by
 have hg:l.getD A default={dst:=some d,op:= .alloc z,guard:=none}:=by rw[bPu,hA];rfl
 have hL:jJ A ⟨0,d,cnt 0 d⟩ l=l.set A {dst:=some d,op:= .mv (.c (.ptr ⟨0,d,cnt 0 d⟩ 0)),guard:=none}:=by unfold jJ aAv;rw[hg]
 have hK:iP ⟨fr,en,cnt⟩ {dst:=some d,op:= .alloc z,guard:=none}=⟨0,d,cnt 0 d⟩:=rfl;obtain⟨h1,h2⟩:=aXa (R:=fun v st=>R (.panic v) st) (C:=fun fs=>((dP fs pairs&&jO an j (l.set A {dst:=some d,op:= .mv (.c (.ptr ⟨0,d,cnt 0 d⟩ 0)),guard:=none}) fs)&&pI an A ⟨0,d,cnt 0 d⟩ fs)=true) j hj ht (fun fs rs hs hc=>by
  rw[bPp,bPp]at hc⊢;exact⟨⟨rR hs _ hc.1.1,aEh hs hc.1.2⟩,aOb hs hc.2⟩) h
 refine .inr ⟨j,o,?_⟩
 rw[hg,hK,hL];exact⟨hj,h1,h2⟩
section
variable {L :bH}{K:Val->St->Prop}
def WPx (L:bH)(f:Nat)(args:List Val)(K:Val->Prop):Prop:= ∃v,PX L f args v/\ K v
@[congr] theorem bI2 {K:Val->Prop}(h:a=a'):WPx L f a K=WPx L f a' K:=by rw[h]
theorem _root_.Go.Abs.PX.det {L:bH}{s:Val}(h:PX L f args r)(k:PX L f args s):s=r:=by
 obtain⟨n,h⟩:=h;obtain⟨m,k⟩:=k;have h1:=h (max n m) (by omega);have h2:=k (max n m) (by omega)
 rw[h1]at h2;cases h2;rfl
theorem _root_.Go.Abs.PX.ret {L:bH}(h:PX L f args r){K:Val->Prop}:WPx L f args K=K r:=
 propext ⟨fun⟨s,h1,h2⟩=>h.det h1▸h2,fun h2=>⟨r,h,h2⟩⟩
def bBq (L:bH)(f:Nat)(o:Option (List (Val×List Key)))(K:Val->Prop):Prop:=
 match o with
 |some rs=>WPx L f (rs.map (·.1.wk1)) K
 |none=>False
@[congr] theorem bHo {o:Option (List (Val×List Key))}{K:Val->Prop}(h:o=o'):bBq L f o K=bBq L f o' K:=by rw[h]
@[go_sem] theorem bPl {rs:List (Val×List Key)}{K:Val->Prop}:bBq L f (some rs) K=WPx L f (rs.map (·.1.wk1)) K:=(rfl)
@[go_sem] theorem bKh {args:List Opd}:lL L ⟨dst,.call (.f f) args,none⟩ ⟨fr,en,cnt⟩ K=bBq L f (cT (snapD 8 en) (args.map (St.get fr))) fun v=>K v ⟨fr,en,cnt⟩:=by
 simp only[lL,wanted,Opd.noM,St.get,bQt,bQr,bBq,WPx]<;>cases cT (snapD 8 en) (List.map (St.get fr) args)<;>rfl
@[congr] theorem bHp {K:Val->En->(Nat->Nat->Nat)->Prop}(h:a=a'):xQ L f a en cnt K=xQ L f a' en cnt K:=by rw[h]
def aSw (L:bH)(f:Val)(args:List Val)(en:En)(cnt:Nat->Nat->Nat)(K:Val->En->(Nat->Nat->Nat)->Prop):Prop:=
 match f with
 | .fn f a b=>xQ L f (a++args++b) en cnt K
 |_=>False
@[congr] theorem bF1 {f:Val}{K:Val->En->(Nat->Nat->Nat)->Prop}(h:f=f')(h':a=a'):aSw L f a en cnt K=aSw L f' a' en cnt K:=by rw[h,h']
@[go_sem] theorem bI3 {f:Opd}{args:List Opd}:lL L ⟨dst,.icall f args,none⟩ ⟨fr,en,cnt⟩ K=aSw L (St.get fr f) (args.map (St.get fr)) en cnt fun v en' cnt'=>K v ⟨fr,en',cnt'⟩:=by
 simp only[lL,wanted,aSw]<;>cases St.get fr f<;>rfl
@[go_sem] theorem bPh {b:List Val}{K:Val->En->(Nat->Nat->Nat)->Prop}:aSw L (.fn f a b) args en cnt K=xQ L f (a++args++b) en cnt K:=(rfl)
def aSx (v:Val)(K:Val->Prop):Prop:=match v with
 | .ifc t u=>(Val.ifc t u).flat=true/\ K (.ifc t u)
 |_=>False
@[congr] theorem bF2 {K:Val->Prop}(h:v=v'):aSx v K=aSx v' K:=by rw[h]
@[go_sem] theorem bI4 {x:Opd}:lL L ⟨dst,.panic x,none⟩ ⟨fr,en,cnt⟩ K=aSx (St.get fr x) fun v=>K v ⟨fr,en,cnt⟩:=by
 simp only[lL,wanted,aSx]<;>cases St.get fr x<;>rfl
@[go_sem] theorem bPi {u:Val}{K:Val->Prop}:aSx (.ifc t u) K=((Val.ifc t u).flat=true/\ K (.ifc t u)):=(rfl)
end
def aFo (P:Program)(g:Nat):List Nat:=(P.funcs[g]?).elim [] P.leadsTo
theorem aP6 {P:Program}{G:Nat->Prop}(hc: ∀g,G g-> ∀h∈aFo P g,G h): ∀(n:Nat) (todo seen:List Nat),(∀g∈todo,G g)->(∀g∈seen,G g)-> ∀g∈P.closureVia n todo seen,G g
 |0,_,seen,_,hs=>fun g hg=>hs g (by simpa[Program.closureVia]using hg)
 |n+1,[],seen,_,hs=>fun g hg=>hs g (by simpa[Program.closureVia]using hg)
 |n+1,f::todo,seen,ht,hs=>by
  rw[Program.closureVia];split
  ·exact aP6 hc n todo seen (fun g hg=>ht g (bRu _ hg)) hs
  ·refine aP6 hc n _ _ (fun g hg=>?_) (fun g hg=>?_)
   ·rcases bQe.1 hg with h|h
    ·exact hc f (ht f bS1) g h
    ·exact ht g (bRu _ h)
   ·rcases bQm.1 hg with rfl|h
    ·exact ht g bS1
    ·exact hs g h
def jR (P:Program)(seen:List Nat):List Nat->Nat
 |[]=>0
 |g::l=>(if seen.contains g then 0 else(aFo P g).length)+jR P seen l
theorem aP7 {P:Program}{seen:List Nat}(f:Nat): ∀l,jR P (f::seen) l<=jR P seen l
 |[]=>bPq _
 |g::l=>by
  have:=aP7 (P:=P) (seen:=seen) f l;simp only[jR,List.contains_cons]
  by_cases h:(g==f)=true<;>by_cases h2:seen.contains g=true<;>simp[h,h2]<;>omega
theorem aOc {P:Program}{seen:List Nat}{f:Nat}(hf:seen.contains f=false): ∀l,f∈l->jR P (f::seen) l+(aFo P f).length<=jR P seen l
 |[],h=>by cases h
 |g::l,h=>by
  have h1:=aP7 (P:=P) (seen:=seen) f l;simp only[jR,List.contains_cons]
  by_cases e:g=f
  ·subst e;simp only[beq_self_eq_true,Bool.true_or,if_true,hf,bPs,if_false];omega
  ·have hm:f∈l:=by
    rcases bQm.1 h with h|h
    ·exact absurd h.symm e
    ·exact h
   have h2:=aOc (P:=P) hf l hm;have:(g==f)=false:=by simpa using e
   simp only[this,bQp];omega
theorem aP8 {P:Program}: ∀(n:Nat) (todo seen:List Nat),todo.length+jR P seen (List.range P.funcs.size)<=n->(∀g∈seen,∀h∈aFo P g,h∈seen \/h∈todo)->
  (∀g,g∈seen \/g∈todo->g∈P.closureVia n todo seen)/\ ∀g∈P.closureVia n todo seen,∀h∈aFo P g,h∈P.closureVia n todo seen
 |0,todo,seen,hn,hi=>by
  have:todo=[]:=bS6.1 (by omega)
  subst this
  refine⟨fun g hg=>?_,fun g hg h hh=>?_⟩
  ·rcases hg with h|h
   ·simpa[Program.closureVia]using h
   ·cases h
  ·have hg':g∈seen:=by simpa[Program.closureVia]using hg
   rcases hi g hg' h hh with h|h
   ·simpa[Program.closureVia]using h
   ·cases h
 |n+1,[],seen,hn,hi=>by
  refine⟨fun g hg=>?_,fun g hg h hh=>?_⟩
  ·rcases hg with h|h
   ·simpa[Program.closureVia]using h
   ·cases h
  ·have hg':g∈seen:=by simpa[Program.closureVia]using hg
   rcases hi g hg' h hh with h|h
   ·simpa[Program.closureVia]using h
   ·cases h
 |n+1,f::todo,seen,hn,hi=>by
  rw[Program.closureVia]
  by_cases hf:seen.contains f=true
  ·rw[if_pos hf];have hfs:f∈seen:=by simpa using hf
   simp only[bPy]at hn;obtain⟨a,b⟩:=aP8 (P:=P) n todo seen (by omega) (fun g hg h hh=>by
    rcases hi g hg h hh with h1|h1
    ·exact .inl h1
    ·rcases bQm.1 h1 with rfl|h1
     ·exact .inl hfs
     ·exact .inr h1)
   refine⟨fun g hg=>a g ?_,b⟩
   rcases hg with h|h
   ·exact .inl h
   ·rcases bQm.1 h with rfl|h
    ·exact .inl hfs
    ·exact .inr h
  ·rw[if_neg hf];have hf':seen.contains f=false:=by simpa using hf
   have hlen:(aFo P f).length+jR P (f::seen) (List.range P.funcs.size)<=jR P seen (List.range P.funcs.size):=by
    by_cases hs:f<P.funcs.size
    ·have:=aOc (P:=P) hf' _ (bQl.2 hs);omega
    ·have:aFo P f=[]:=by unfold aFo;rw[Array.getElem?_eq_none (by omega)];rfl
     rw[this];have:=aP7 (P:=P) (seen:=seen) f (List.range P.funcs.size)
     simpa using this
   simp only[bPy]at hn;obtain⟨a,b⟩:=aP8 (P:=P) n (aFo P f++todo) (f::seen) (by simp only[bP9];omega) (fun g hg h hh=>by
    rcases bQm.1 hg with rfl|hg
    ·exact .inr (bR1 _ hh)
    ·rcases hi g hg h hh with h1|h1
     ·exact .inl (bRu _ h1)
     ·rcases bQm.1 h1 with rfl|h1
      ·exact .inl bS1
      ·exact .inr (bRv _ h1))
   refine⟨fun g hg=>a g ?_,b⟩
   rcases hg with h|h
   ·exact .inl (bRu _ h)
   ·rcases bQm.1 h with rfl|h
    ·exact .inl bS1
    ·exact .inr (bRv _ h)
theorem aSy {P:Program}: ∀(l:List Func) (k:Nat),(∀i,i<l.length->P.funcs[k+i]?=l[i]?)->jR P [] (List.range' k l.length)<=(l.map fun g=>(P.leadsTo g).length+1).sum
 |[],_,_=>bPx _
 |g::l,k,h=>by
  have h0:=h 0 (by simp)
  have ih:=aSy (P:=P) l (k+1) (fun i hi=>by
   have:=h (i+1) (by simp;omega)
   rw[show k+1+i=k+(i+1)by omega,this];rfl)
  simp only[bQ9,bR9]at h0;have e:aFo P k=P.leadsTo g:=by unfold aFo;rw[h0];rfl
  simp only[bPy,bSr,jR,e,bQj,List.sum_cons];have:([]:List Nat).contains k=false:=rfl;rw[this];simp only[bPs,if_false];omega
theorem aBt (P:Program)(f:Nat):f∈P.closure f/\ ∀g∈P.closure f,∀h∈aFo P g,h∈P.closure f:=by
 have hr:=aSy (P:=P) P.funcs.toList 0 (fun i _=>by simp)
 rw[<-bSw,bRz]at hr;obtain⟨a,b⟩:=aP8 (P:=P) (1+(P.funcs.toList.map fun g=>(P.leadsTo g).length+1).sum) [f] [] (by simp only[bPy,bP7];omega) (fun g hg=>by cases hg)
 exact⟨a f (.inr bS1),b⟩
variable {fn:Func}
theorem zY {h:Nat}(hg:g∈P.closure f)(hfn:P.funcs[g]?=some fn)(hh:(P.leadsTo fn).contains h=true):h∈P.closure f:=
 (aBt P f).2 g hg h (by unfold aFo;rw[hfn];simpa using hh)
theorem bHq {q:Func->Nat->Bool}(h:(P.funcs.toList.zipIdx.all fun p=>q p.1 p.2)=true)(hfn:P.funcs[g]?=some fn):q fn g=true:=by
 rw[bPv]at h;exact h (fn,g) (by rw[List.mem_zipIdx_iff_getElem?];simpa using hfn)
def bF3 (P:Program)(good:Nat→Bool):Bool:=P.funcs.toList.zipIdx.all fun p=>(p.1.body.elim [] Code.globalsNamed).isEmpty&&(!good p.2||((P.leadsTo p.1).all good&&!(p.1.ours||p.1.body.isNone||p.1.name== "runtime.NumGoroutine")))
theorem aFp {good:Nat->Bool}(h:bF3 P good=true)(hf:good f=true):P.inPlace f=[]/\ P.varsNamed f=[]:=by
 have hz:=fun g fn hfn=>bHq (q:=fun a b=>(a.body.elim [] Code.globalsNamed).isEmpty&&(!good b||((P.leadsTo a).all good&&!(a.ours||a.body.isNone||a.name== "runtime.NumGoroutine")))) h (g:=g) (fn:=fn) hfn
 have hg: ∀g∈P.closure f,good g=true:=by
  refine aP6 (P:=P) (G:=fun g=>good g=true) (fun g hg x hx=>?_) _ _ _ (fun g hg=>?_) (fun g hg=>by cases hg)
  ·unfold aFo at hx;cases hfn:P.funcs[g]? with
   |none=>rw[hfn]at hx;cases hx
   |some fn=>
    rw[hfn]at hx;have:=hz g fn hfn;simp only[hg,bP3,bQp,bPp,bPv]at this;exact this.2.1 x hx
  ·rw[bQ1.1 hg];exact hf
 have hodd: ∀g∈P.closure f,∀fn,P.funcs[g]?=some fn→(fn.ours||fn.body.isNone||fn.name== "runtime.NumGoroutine")=false:=fun g h1 fn hfn=>by
  have:=hz g fn hfn;simp only[hg g h1,bP3,bQp,bPp]at this
  simpa using this.2.2
 constructor
 ·unfold Program.inPlace;rw[List.filterMap_eq_nil_iff];intro g h1;cases hfn:P.funcs[g]? with
  |none=>rfl
  |some fn=>
   simp only[bSl];rw[hodd g h1 fn hfn];rfl
 ·unfold Program.varsNamed;have e1:((P.closure f).flatMap fun g=>((P.funcs[g]?).bind (·.body)).elim [] Code.globalsNamed)=[]:=by
   rw[List.flatMap_eq_nil_iff];intro g h1;cases hfn:P.funcs[g]? with
   |none=>rfl
   |some fn=>
    have:=hz g fn hfn;simp only[bPp,bSs]at this;simp only[bSl];exact this.1
  have e2:((P.closure f).filterMap fun g=>(P.funcs[g]?).bind fun fn=>if fn.body.isNone then entryReads.lookup fn.name else none)=[]:=by
   rw[List.filterMap_eq_nil_iff];intro g h1;cases hfn:P.funcs[g]? with
   |none=>rfl
   |some fn=>
    have:=hodd g h1 fn hfn;simp only[Bool.or_eq_false_iff]at this;simp only[bSl,this.1.2,bPs,if_false]
  rw[e1,e2];rfl
theorem bBr (hg:g∈P.closure f)(hfn:P.funcs[g]?=some fn)(h:(match fn.body with|some c=>c.unfollowed|none=>entryCalls fn)=true):P.unfollowed f=true/\ P.recurses f=true:=by
 have:P.unfollowed f=true:=by
  unfold Program.unfollowed;rw[bSn];exact⟨g,hg,by rw[hfn];exact h⟩
 exact⟨this,by unfold Program.recurses;rw[this];rfl⟩
def orC (m c:bC):bC:=fun f a=>match m f a with
 |some r=>some r
 |none=>c f a
def unC (m c:bC):bC:=fun f a=>match m f a with
 |some _=>none
 |none=>c f a
def aK4 (L:bH)(m:bC):Nat->aZ->St->Option (Ex×St)
 |0=>fun _ _=>none
 |n+1=>tH L (aK4 L m n) (orC m (bL L 8 (aK4 L m n))) (unC m (cO L (aK4 L m n)))
theorem aSz {L:bH}{m:bC}{N:Nat}(hm:CLe m (lX L N)): ∀n,XLe (aK4 L m n) (exec L (N+n))
 |0=>fun c s r h=>by simp[aK4]at h
 |n+1=>by
  have ih:=aSz hm n;rw[show N+(n+1)=(N+n)+1 from rfl,aHf]
  refine aW3 ih (fun f a r h=>?_) (fun f a r h=>?_)
  ·unfold orC at h
   split at h
   ·rename_i hq;cases h;exact aBk (by omega) (hm _ _ _ hq)
   ·exact yM ih _ _ _ h
  ·unfold unC at h
   split at h
   ·cases h
   ·exact aSg ih _ _ _ h
structure dZ where
 f:Nat
 a:List Val
 r:Val
def aS0 :List dZ->bC
 |[],_,_=>none
 |e::l,f,a=>if e.f=f then(if rJ (sC 50) e.a a=true then some e.r else aS0 l f a)else aS0 l f a
def fM (L:bH)(l:List dZ):Prop:= ∃N,CLe (aS0 l) (lX L N)
theorem fM.nil {L:bH}:fM L []:=⟨0,fun _ _ _ h=>by simp[aS0]at h⟩
theorem fM.pc {L:bH}{l:List dZ}(h:fM L l){n:Nat}{a:List Val}(hr:bL L 8 (aK4 L (aS0 l) n) f a=some r):PC L f a r:=by
 obtain⟨N,hN⟩:=h;exact bHb (yM (aSz hN n) _ _ _ hr)
theorem fM.add {L:bH}{l:List dZ}(h:fM L l){a:List Val}(hr:PC L f a r):fM L (⟨f,a,r⟩::l):=by
 obtain⟨N,hN⟩:=h;obtain⟨M,hM⟩:=hr
 refine⟨N+M,fun g b q hq=>?_⟩
 simp only[aS0]at hq
 split at hq
 ·rename_i e1
  split at hq
  ·rename_i e2;cases hq;subst e1;cases aEw (aEx 50) e2;exact hM _ (by omega)
  ·exact aBk (by omega) (hN _ _ _ hq)
 ·exact aBk (by omega) (hN _ _ _ hq)
theorem fM.step {L:bH}{e:dZ}{l:List dZ}(h:fM L l)(hr:bL L 8 (aK4 L (aS0 l) 1000) e.f e.a=some e.r):fM L (e::l):=h.add (h.pc hr)
theorem fM.one {L:bH}{e:dZ}{l:List dZ}(h:fM L (e::l)):fM L [e]:=by
 obtain⟨N,hN⟩:=h
 refine⟨N,fun f a r hr=>hN f a r ?_⟩
 simp only[aS0]at hr⊢
 split at hr
 ·rename_i e1
  split at hr
  ·rename_i e2;rw[if_pos e1,if_pos e2];exact hr
  ·cases hr
 ·cases hr
end Go.Abs
