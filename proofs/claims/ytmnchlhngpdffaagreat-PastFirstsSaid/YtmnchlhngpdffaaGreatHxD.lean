/- The interpreter of the translated code, and its proof: part D. -/
import Derived.Test.YtmnchlhngpdffaaGreatHxC
import Derived.RecoverIn
import Derived.KernelRfl
import Derived.ProofKit
import Derived.OpenShut
import Derived.JoinedOf
import Derived.Test.YtmnchlhngpdffaaGreatHxA
import Derived.IntWalk
set_option linter.all false
open Array renaming getD_eq_getD_getElem? → bPc, getElem?_append → bRp, getElem?_eq_getElem → bPk, getElem?_replicate → bQr, getElem_toList → bRr, length_toList → bQ4, mapM_eq_mapM_toList → bSf, size_append → bRo
open Bool renaming and_eq_true → bOx, and_false → bQc, and_true → bQ2, false_and → bPm, false_eq_true → bO0, not_false → bPh, not_true → bPd, or_true → bQv, true_and → bPr
open Int renaming natCast_nonneg → bRg, toNat_natCast → bPz
open List renaming all_cons → bQ7, all_eq_true → bO4, any_eq_true → bRy, append_nil → bPx, cons_append → bRa, countP_le_length → bR6, drop_eq_getElem_cons → bPy, drop_eq_nil_iff → bR4, drop_zero → bQ6, flatMap_cons → bRe, flatMap_nil → bQy, foldl_nil → bRc, getD_cons_zero → bRt, getD_eq_getElem?_getD → bO2, getElem?_append → bRn, getElem?_cons_succ → bR9, getElem?_cons_zero → bRf, getElem?_eq_getElem → bP7, getElem_mem → bO6, isEmpty_iff → bRw, length_append → bPg, length_cons → bO7, length_map → bOz, length_nil → bPe, map_cons → bPw, map_nil → bPf, mem_append_left → bQ9, mem_append_right → bQ0, mem_cons → bP0, mem_cons_of_mem → bQz, mem_map → bPt, mem_range → bPu, nil_append → bP1, range'_succ → bRu, range_eq_range' → bR2, set_cons_succ → bQx, set_cons_zero → bQw, take_succ_cons → bO5, take_zero → bO3
open Nat renaming add_zero → bQh, le_refl → bOy, le_trans → bPb, zero_add → bPs
open Option renaming bind_eq_bind → bPj, bind_eq_some_iff → bO9, getD_some → bPp, isNone_iff_eq_none → bRx, isSome_iff_exists → bQk, map_eq_some_iff → bPa, map_some → bPq, pure_def → bPl
open Option.some renaming injEq → bOw
open Prod.mk renaming injEq → bO1
namespace Go.Abs
open Go.RowKit (Below)
variable [Inhabited lX]
variable {n:Nat}{st:St}
theorem wY {L:bJ}{x:Ex×St}(h:exec L n aI0 st=some x):False:=by
 cases n<;>simp[aI0,exec,St.get]at h
variable {P:Program}
theorem aZ2 {L:bJ}(hL:pW P L)(hF:aF6 P L n)(ih:wD P L n):wW P (eW L (exec L n)):=⟨aOt hL hF,bCz ih⟩
variable {args:List Val}{ex:bB->St->Option (Ex×St)}{f:Nat}{st':St}{v:Val}
theorem bGb {L:bJ}(h:kP L ex f args st=some (v,st')):st'.fr=st.fr:=by
 simp only[kP]at h
 split at h
 ·cases h
 split at h
 case isFalse=>cases h
 split at h
 ·obtain⟨r,_,he⟩:=bPa.1 h;simp only[bO1]at he;rw[<-he.2]
 split at h
 case h_2=>cases h
 split at h
 case isFalse=>cases h
 obtain⟨vs,_,he⟩:=bPa.1 h;simp only[bO1]at he;rw[<-he.2]
theorem bGc {L:bJ}(h:eD L ex f args st=some (v,st')):st'.fr=st.fr:=by
 simp only[eD]at h
 split at h
 ·cases h
 split at h
 case isFalse=>cases h
 split at h
 case h_2=>cases h
 simp only[bOw,bO1]at h;rw[<-h.2]
theorem bC0 {L:bJ}(h:zU L ex f args st=some (v,st')):st'.fr=st.fr:=by
 simp only[zU]at h
 split at h
 case h_2=>cases h
 rename_i hi
 split at h
 case h_2=>cases h
 split at h
 case h_2=>cases h
 simp only[bOw,bO1]at h;have:=bGb hi;rw[<-h.2];exact this
variable {B N m:Nat}{G:Gh}{I:Operand->Bool}{Q:Exit->Act->World->Prop}{S:Nat->Nat->Prop}{ca cb:Code}{e:Ex}{ps:Array Tmp}{w:World}{Ξ:Env}
theorem aJr {L:bJ}(hL:pW P L)(hF:aF6 P L n){a0:Act}{W0:World}
     {x y:List Val} {p q:Array Value} (hps:ps.toList.all (· <N)=true) (haN:(cG P I ca).dstOk N=true) (hbN:(cG P I cb).dstOk N=true) (hR:Rel P Ξ B S G st N a0 W0) (hB0:Below B w W0)
  (hp:p.size=x.length) (hq:q.size=y.length) (hvp: ∀i,i<x.length->VR (aX B S G W0.heap.size) G W0 (x.getD i .dead) (p.getD i undef)) (hvq: ∀i,i<y.length->VR (aX B S G W0.heap.size) G W0 (y.getD i .dead) (q.getD i undef))
  (hcx:(∃v st2,zU L (exec L n) f (x++[.yld ⟨1,0,st.cnt 1 0⟩]++y) {fr:=st.fr,en:=st.en.set ⟨1,0,st.cnt 1 0⟩ (some (.loop st.fr ps.toList (cG P I ca) (cG P I cb) .ready)),cnt:=aC st.cnt 1 0 (st.cnt 1 0+1)}=some (v,st2)/\
   (match st2.en ⟨1,0,st.cnt 1 0⟩with
   |some (.loop _ _ _ _ .ready)=>some (.normal,{st2 with en:=st2.en.set ⟨1,0,st.cnt 1 0⟩ none})
   |some (.loop _ _ _ _ (.done e))=>some (e,{st2 with en:=st2.en.set ⟨1,0,st.cnt 1 0⟩ none})
   |_=>none:Option (Ex×St))=some (e,st')) \/
   ∃v st2,eD L (exec L n) f (x++[.yld ⟨1,0,st.cnt 1 0⟩]++y) {fr:=st.fr,en:=st.en.set ⟨1,0,st.cnt 1 0⟩ (some (.loop st.fr ps.toList (cG P I ca) (cG P I cb) .ready)),cnt:=aC st.cnt 1 0 (st.cnt 1 0+1)}=some (v,st2)/\
    e= .panic v/\ st'={st2 with en:=st2.en.set ⟨1,0,st.cnt 1 0⟩ none}) (hQ: ∀a' w' G' x,e.val x->aF5 P Ξ B S G' st' N e a' w'->Below B w w'->Q (e.toExit x) a' w') (rec:Loop)
  (hrec:rec.state= .ready/\ rec.pending=none/\ rec.tmps=a0.tmps/\ rec.params=ps/\ rec.assign=ca/\ rec.body=cb) (mm:Nat):
  CallsIn (Fx Ξ.ro) mm P f (p++ #[.func (.yield W0.heap.size) #[] #[]]++q) (W0.alloc (.loop rec)) (rangePost (Fx Ξ.ro) m P W0.heap.size Q a0):=by
 obtain⟨rfl1,rfl2,rfl3,rfl4,rfl5,rfl6⟩:=hrec;obtain⟨k,hk⟩: ∃k:Key,k=⟨1,0,st.cnt 1 0⟩:=⟨_,rfl⟩
 have hf:=hR.freshG ⟨1,0,st.cnt 1 0⟩ (bOy _);have hg:=Gh.le_addMp (b:=W0.heap.size) hf.2.2;have ho': ∀b,b≠W0.heap.size->(G.addMp ⟨1,0,st.cnt 1 0⟩ W0.heap.size).own b=G.own b:=fun b hb=>by simp[Gh.addMp,hb]
 have mm1:=oU (B:=B) (S:=S) (w:=W0) (o:= .loop rec) hg ho';have hnew:(W0.alloc (.loop rec)).heap[W0.heap.size]?=some (.loop rec):=fF _ _;have hsz:N<=rec.tmps.size:=by rw[rfl3];exact hR.tmps
 have hfrm: ∀i,VR (aX B S (G.addMp ⟨1,0,st.cnt 1 0⟩ W0.heap.size) (W0.alloc (.loop rec)).heap.size) (G.addMp ⟨1,0,st.cnt 1 0⟩ W0.heap.size) (W0.alloc (.loop rec)) (st.fr i) (rec.tmps.getD i undef):=fun i=>by rw[rfl3];exact(hR.frame i).mono mm1
 have hmk:(G.addMp ⟨1,0,st.cnt 1 0⟩ W0.heap.size).mp ⟨1,0,st.cnt 1 0⟩=some W0.heap.size:=by simp[Gh.addMp]
 have how:(G.addMp ⟨1,0,st.cnt 1 0⟩ W0.heap.size).own W0.heap.size=some (⟨1,0,st.cnt 1 0⟩,0):=by simp[Gh.addMp]
 have hE:ER P B (aX B S (G.addMp ⟨1,0,st.cnt 1 0⟩ W0.heap.size) (W0.alloc (.loop rec)).heap.size) (G.addMp ⟨1,0,st.cnt 1 0⟩ W0.heap.size) (W0.alloc (.loop rec)) ⟨1,0,st.cnt 1 0⟩ (.loop st.fr ps.toList (cG P I ca) (cG P I cb) .ready):=
  ER.loop st.fr ps.toList (cG P I ca) (cG P I cb) .ready W0.heap.size rec I N hmk hR.size hnew (by rw[rfl4]) (by rw[rfl5]) (by rw[rfl6]) hsz hps haN hbN hfrm ⟨rfl1,rfl2⟩ how
 have hR1:=hR.allocN 1 0 (.loop rec) (.loop st.fr ps.toList (cG P I ca) (cG P I cb) .ready) (G.addMp ⟨1,0,st.cnt 1 0⟩ W0.heap.size) hg ho' (fun k' hk'=>⟨rfl,rfl,by simp[Gh.addMp,hk']⟩) (fun k' t h=>by rw[how]at h;simp only[bOw,bO1]at h;exact h.1.symm) hE
 let Ξ2:Env:={Ξ with prs:=fun u z=>Ξ.prs u z \/(u= .yld ⟨1,0,st.cnt 1 0⟩/\ z= .func (.yield W0.heap.size) #[] #[])}
 have hyl:VR (aX B S (G.addMp ⟨1,0,st.cnt 1 0⟩ W0.heap.size) (W0.alloc (.loop rec)).heap.size) (G.addMp ⟨1,0,st.cnt 1 0⟩ W0.heap.size) (W0.alloc (.loop rec)) (.yld ⟨1,0,st.cnt 1 0⟩) (.func (.yield W0.heap.size) #[] #[]):= .yld _ _ (by simp[Gh.addMp])
 have hR2:Rel P Ξ2 B S (G.addMp ⟨1,0,st.cnt 1 0⟩ W0.heap.size) {fr:=st.fr,en:=st.en.set ⟨1,0,st.cnt 1 0⟩ (some (.loop st.fr ps.toList (cG P I ca) (cG P I cb) .ready)),cnt:=aC st.cnt 1 0 (st.cnt 1 0+1)} N a0 (W0.alloc (.loop rec)):=
  ⟨hR1.size,hR1.tmps,hR1.frame,hR1.marks,hR1.ents,hR1.freshEn,hR1.freshG,hR1.own,fun u z hu=>hu.elim (fun hu=>hu.elim (fun h=>hR1.extra u z (.inl h)) fun h=>by rw[h.1,h.2];exact hyl) fun h=>hR1.extra u z (.inr h),hR1.round,hR1.defs,hR1.virt⟩
 have hszv:(p++ #[Value.func (.yield W0.heap.size) #[] #[]]++q).size=(x++[Val.yld ⟨1,0,st.cnt 1 0⟩]++y).length:=by simp only[bRo,bPg,hp,hq];rfl
 have hvrs: ∀i,i<(x++[Val.yld ⟨1,0,st.cnt 1 0⟩]++y).length->VR (aX B S (G.addMp ⟨1,0,st.cnt 1 0⟩ W0.heap.size) (W0.alloc (.loop rec)).heap.size) (G.addMp ⟨1,0,st.cnt 1 0⟩ W0.heap.size) (W0.alloc (.loop rec))
   ((x++[Val.yld ⟨1,0,st.cnt 1 0⟩]++y).getD i .dead) ((p++ #[Value.func (.yield W0.heap.size) #[] #[]]++q).getD i undef):=by
  intro i hi;simp only[bPg,bO7,bPe]at hi;simp only[bO2,bPc,bRn,bRp,bPg,bRo,bO7,bPe,hp];rw[show(#[Value.func (.yield W0.heap.size) #[] #[]]:Array Value).size=1 from rfl]
  split
  ·split
   ·rename_i h;have:=(hvp i h).mono mm1;simpa[bO2,bPc]using this
   ·have:i-x.length=0:=by omega
    rw[this];exact hyl
  ·have:=(hvq (i-(x.length+(0+1))) (by omega)).mono mm1;simpa[bO2,bPc]using this
 rcases hcx with⟨v,st2,hcall,hx⟩|⟨v,st2,hcall,rfl,rfl⟩
 case inr=>
  obtain⟨_,hcalls⟩:=aJn hL hF _ _ _ _ _ hcall;have hc:=hcalls Ξ2 B S _ _ N a0 _ _ hR2 rfl rfl hszv hvrs
  refine pG (ro:=Ξ.ro) (m:=mm) (Calls.mono hc ?_)
  rintro e1 w3 ⟨z,G3,rfl,hzv,hR3,hb3⟩
  have hb:Below B w w3:=(hB0.trans ((Below.refl B W0).alloc hR.size _)).trans hb3;have hw':=hR3.drop ⟨1,0,st.cnt 1 0⟩;have hfr:=bGc hcall
  refine hQ a0 w3 G3 z hzv ?_ hb
  have hst:({st2 with en:=st2.en.set ⟨1,0,st.cnt 1 0⟩ none}:St)={fr:=st.fr,en:=st2.en.set ⟨1,0,st.cnt 1 0⟩ none,cnt:=st2.cnt}:=by rw[<-hfr]
  rw[hst]
  refine Rel.e (Ξ:=Ξ) ⟨hw'.size,hw'.tmps,hw'.frame,hw'.marks,hw'.ents,hw'.freshEn,hw'.freshG,hw'.own,fun u z hu=>hw'.extra u z (hu.imp_left .inl),hw'.round,hw'.defs,hw'.virt⟩
 obtain⟨_,hcalls⟩:=aOt hL hF _ _ _ _ _ hcall;have hc:=hcalls Ξ2 B S _ _ N a0 _ _ hR2 rfl rfl hszv hvrs
 refine pG (ro:=Ξ.ro) (m:=mm) (Calls.mono hc ?_)
 ·rintro e1 w3 ⟨z,G3,rfl,hR3,_,hb3⟩
  have hb:Below B w w3:=(hB0.trans ((Below.refl B W0).alloc hR.size _)).trans hb3;have hy3:=hR3.extra (.yld ⟨1,0,st.cnt 1 0⟩) (.func (.yield W0.heap.size) #[] #[]) (.inl (.inr ⟨rfl,rfl⟩));have hfr:=bC0 hcall;have done: ∀{fr3:Nat->Val} {ps3:List Nat} {la3 lb3:bB} {q3:LSt},st2.en ⟨1,0,st.cnt 1 0⟩=some (.loop fr3 ps3 la3 lb3 q3)->q3≠ .busy-> ∃rec3,w3.heap[W0.heap.size]?=some (.loop rec3)/\ aZb q3 rec3/\ (rec3.state≠ .busy->
    Rel P Ξ B S G3 {fr:=st.fr,en:=st2.en.set ⟨1,0,st.cnt 1 0⟩ none,cnt:=st2.cnt} N a0 (w3.putObj W0.heap.size (.loop {rec3 with state:= .exhausted}))/\ Below B w (w3.putObj W0.heap.size (.loop {rec3 with state:= .exhausted}))):=by
   intro fr3 ps3 la3 lb3 q3 he3 _;cases hy3 with
   |yld _ _ hmp3=>
   have hE:=hR3.ents _ _ he3 (Gh.knows_mp hmp3);cases hE with
   |loop _ _ _ _ _ l3 rec3 I3 N3 hl3 hB3 hh3 hps3 ha3 hb3' hN3 hpN3 haN3 hbN3 hf3 hst3 hown3=>
   rw[hmp3]at hl3;simp only[bOw]at hl3;subst hl3
   refine⟨rec3,hh3,hst3,fun _=>?_⟩
   have hw:=(hR3.write (e':= .loop fr3 ps3 la3 lb3 .over) (o':= .loop {rec3 with state:= .exhausted}) hown3 hh3 (fun _ _=> .inl (by simp)) (fun _=>by simp) (fun r _=>⟨_,rfl⟩) (fun off h=>by omega)
    (fun m=> .loop fr3 ps3 la3 lb3 .over _ _ I3 N3 hmp3 hB3 (kU _ (dY hh3)) hps3 ha3 hb3' hN3 hpN3 haN3 hbN3 (fun i=>(hf3 i).mono m) rfl hown3)).drop ⟨1,0,st.cnt 1 0⟩
   rw[aHc]
   refine⟨?_,hb.trans (sW hB3)⟩
   have hen:(st2.en.set ⟨1,0,st.cnt 1 0⟩ (some (.loop fr3 ps3 la3 lb3 .over))).set ⟨1,0,st.cnt 1 0⟩ none=st2.en.set ⟨1,0,st.cnt 1 0⟩ none:=by
    funext k';simp only[En.set];split<;>rfl
   have hw':Rel P Ξ2 B S G3 {fr:=st.fr,en:=st2.en.set ⟨1,0,st.cnt 1 0⟩ none,cnt:=st2.cnt} N a0 (kG w3 W0.heap.size (.loop {rec3 with state:= .exhausted})):=by
    rw[<-hen];exact hw
   exact⟨hw'.size,hw'.tmps,hw'.frame,hw'.marks,hw'.ents,hw'.freshEn,hw'.freshG,hw'.own,fun u z hu=>hw'.extra u z (hu.imp_left .inl),hw'.round,hw'.defs,hw'.virt⟩
  have hst:({fr:=st2.fr,en:=st2.en.set ⟨1,0,st.cnt 1 0⟩ none,cnt:=st2.cnt}:St)={fr:=st.fr,en:=st2.en.set ⟨1,0,st.cnt 1 0⟩ none,cnt:=st2.cnt}:=by rw[hfr]
  split at hx
  ·rename_i he3;obtain⟨rec3,hh3,hq3,hfin⟩:=done he3 (by simp)
   obtain⟨r1,r2⟩:=hfin (by rw[hq3.1];simp)
   simp only[bOw,bO1]at hx;obtain⟨rfl,rfl⟩:=hx
   refine⟨_,_,run_endLoop hh3 (by rw[hq3.1];simp),?_⟩
   have hq:=hQ a0 _ G3 undef trivial (by rw[hst];exact r1.e) r2
   split
   ·exact hq
   ·rename_i c hc;rw[hq3.2]at hc;cases hc
  ·rename_i e3 he3;obtain⟨rec3,hh3,hq3,hfin⟩:=done he3 (by simp)
   obtain⟨r1,r2⟩:=hfin (by rw[hq3.1];simp)
   simp only[bOw,bO1]at hx;obtain⟨rfl,rfl⟩:=hx
   refine⟨_,_,run_endLoop hh3 (by rw[hq3.1];simp),?_⟩
   have hq:=hQ a0 _ G3 undef (by cases e3<;>first|trivial|(have:=hq3.2.2.2;cases this)) (by rw[hst];exact r1.e) r2
   split
   ·rename_i hc;rw[hq3.2.1]at hc;cases hc
   rename_i c hc;rw[hq3.2.1,bOw]at hc;subst hc;cases e3 with
   |normal=>exact absurd rfl hq3.2.2.1
   |panic v=>have:=hq3.2.2.2;cases this
   |exit id=>exact wpIn_exit hq
   |ret=>exact wpIn_ret hq
  ·cases hx
variable {a:Act}
theorem aUl {L:bJ}(hL:pW P L)(hF:aF6 P L n){g:Operand}{g':Opd}
    (hg:aO g=some g') (hps:ps.toList.all (· <N)=true) (haN:(cG P I ca).dstOk N=true) (hbN:(cG P I cb).dstOk N=true) (hnm:Ξ.nm=false) (hR:Rel P Ξ B S G st N a w)
  (hx:nG L (exec L n) (St.get st.fr g') ps.toList (cG P I ca) (cG P I cb) st=some (e,st')) (hQ: ∀a' w' G' x,e.val x->aF5 P Ξ B S G' st' N e a' w'->Below B w w'->Q (e.toExit x) a' w'):
  (Code.rangeFunc g ps ca cb).wpIn (Fx Ξ.ro) m P Q a w:=by
 unfold nG at hx
 split at hx
 case h_2=>cases hx
 rename_i f x y hgv;have hG:=aU hR hg;rw[hgv]at hG;generalize hgF:a.eval g=uF at hG;cases hG with
 |fn _ _ _ p q hp hq hvp hvq=>
 simp only at hx
 obtain⟨⟨fn,hfn,hnm1,hbody⟩,hcx⟩:(∃fn,P.funcs[f]?=some fn∧(fn.name== "runtime.NumGoroutine")=false∧fn.body.isNone=false)∧((∃v st2,zU L (exec L n) f (x++[.yld ⟨1,0,st.cnt 1 0⟩]++y) {fr:=st.fr,en:=st.en.set ⟨1,0,st.cnt 1 0⟩ (some (.loop st.fr ps.toList (cG P I ca) (cG P I cb) .ready)),cnt:=aC st.cnt 1 0 (st.cnt 1 0+1)}=some (v,st2)∧
   (match st2.en ⟨1,0,st.cnt 1 0⟩with
   |some (.loop _ _ _ _ .ready)=>some (.normal,{st2 with en:=st2.en.set ⟨1,0,st.cnt 1 0⟩ none})
   |some (.loop _ _ _ _ (.done e))=>some (e,{st2 with en:=st2.en.set ⟨1,0,st.cnt 1 0⟩ none})
   |_=>none:Option (Ex×St))=some (e,st')) \/
   ∃v st2,eD L (exec L n) f (x++[.yld ⟨1,0,st.cnt 1 0⟩]++y) {fr:=st.fr,en:=st.en.set ⟨1,0,st.cnt 1 0⟩ (some (.loop st.fr ps.toList (cG P I ca) (cG P I cb) .ready)),cnt:=aC st.cnt 1 0 (st.cnt 1 0+1)}=some (v,st2)/\
    e= .panic v/\ st'={st2 with en:=st2.en.set ⟨1,0,st.cnt 1 0⟩ none}):=by
  split at hx
  ·rename_i v st2 hcall;exact⟨(aOt hL hF _ _ _ _ _ hcall).1,.inl ⟨v,st2,hcall,hx⟩⟩
  ·split at hx
   case h_2=>cases hx
   rename_i v st2 hcall;simp only[bOw,bO1]at hx;exact⟨(aJn hL hF _ _ _ _ _ hcall).1,.inr ⟨v,st2,hcall,hx.1.symm,hx.2.symm⟩⟩
 have hnm': ¬fn.name= "runtime.NumGoroutine" :=by simpa using hnm1
 have hbody': ¬fn.body=none:=by intro h;rw[h]at hbody;cases hbody
 have call: ∀(l:Nat) (W:World),(resolve a.eval (rangeCall g l) 0).run P W= .ok {target:= .fn (.func f) q,args:=p++ #[.func (.yield l) #[] #[]]} W/\
   (invoke (.fn (.func f) q) (p++ #[.func (.yield l) #[] #[]])).run P W= .ok (.enter f (p++ #[.func (.yield l) #[] #[]]++q)) W:=by
  intro l W;constructor
  ·have hc:a.eval (.const (.func (.yield l) #[] #[]))= .func (.yield l) #[] #[]:=rfl;simp[resolve,rangeCall,hgF,Deferred.ofValue,hc]
  ·simp[invoke,callFunc,hfn,hnm',hbody']
 refine wpIn_rangeFunc fun fnid _=>?_
 have below_vr: ∀{W:World},Below w.heap.size w W->(∀i,i<x.length->VR (aX B S G W.heap.size) G W (x.getD i .dead) (p.getD i undef))/\ ∀i,i<y.length->VR (aX B S G W.heap.size) G W (y.getD i .dead) (q.getD i undef):=
  fun hb=>⟨fun i hi=>(hvp i hi).mono (qX hb),fun i hi=>(hvq i hi).mono (qX hb)⟩
 cases hro:Ξ.ro with
 |none=>
  have hb0:Below w.heap.size w (w.alloc (.deferred (some []))):=(Below.refl _ w).alloc (bOy _) _;have hR0:=hR.below hb0;obtain⟨Ds,d1,d2,d3⟩:=hR0.marks;have hnew:(w.alloc (.deferred (some []))).heap[w.heap.size]?=some (.deferred (some [])):=fF _ _;have hold: ∀D∈Ds,D<w.heap.size:=fun D hD=>by
   obtain⟨Ds',d1',d2',d3'⟩:=hR.marks;have:Ds.map xU=Ds'.map xU:=List.append_cancel_right (by rw[<-d1,<-d1'])
   have hm:xU D∈Ds'.map xU:=by rw[<-this];exact bPt.2 ⟨D,hD,rfl⟩
   obtain⟨D',h1,h2⟩:=bPt.1 hm;have:D'=D:=by simpa[xU]using h2
   subst this;exact dY (d3' _ h1).2.2
  have hR1:Rel P Ξ B S G st N {a with defers:=[xU w.heap.size]++a.defers} (w.alloc (.deferred (some []))):=
   ⟨hR0.size,hR0.tmps,hR0.frame,⟨w.heap.size::Ds,by simp[d1],⟨by rw[List.nodup_cons];exact⟨fun h=>by have:=hold _ h;omega,d2.1⟩,fun h=>by rw[hnm]at h;cases h⟩,fun D hD=>by
     rcases bP0.1 hD with rfl|hD
     ·exact⟨hR.size,fun h=>by have:=dY (hR.defs _ h);omega,hnew⟩
     ·exact d3 D hD⟩,hR0.ents,hR0.freshEn,hR0.freshG,hR0.own,hR0.extra,hR0.round,hR0.defs,hR0.virt⟩
  obtain⟨v1,v2⟩:=below_vr hb0
  refine⟨_,_,_,_,_,f,_,_,by rw[show(Fx none).round=none from rfl];exact run_enterLoop_outer fnid a.tmps ps ca cb,(call _ _).1,fun _ _=>trivial,(call _ _).2,fun h=>by simp[Fx,Fence.wide]at h,?_⟩
  have:=aJr hL hF (Q:=Q) (m:=m) hps haN hbN hR1 (Below.mono hb0 hR.size) hp hq v1 v2 hcx hQ {state:= .ready,pending:=none,fn:=fnid,tmps:=a.tmps,params:=ps,assign:=ca,body:=cb,defers:=w.heap.size} ⟨rfl,rfl,rfl,rfl,rfl,rfl⟩ (m-1);rw[hro,size_alloc]at this;exact this
 |some l0=>
  obtain⟨r0,hr0⟩:=hR.round l0 (.inl hro)
  refine⟨_,_,_,_,_,f,_,_,by rw[show(Fx (some l0)).round=some l0 from rfl];exact run_enterLoop_inner hr0 fnid a.tmps ps ca cb,(call _ _).1,fun _ _=>trivial,(call _ _).2,fun h=>by simp[Fx,Fence.wide]at h,?_⟩
  have:=aJr hL hF (Q:=Q) (m:=m) hps haN hbN hR (Below.refl _ _) hp hq hvp hvq hcx hQ {state:= .ready,pending:=none,fn:=fnid,tmps:=a.tmps,params:=ps,assign:=ca,body:=cb,defers:=r0.defers} ⟨rfl,rfl,rfl,rfl,rfl,rfl⟩ (m-1);rw[hro]at this;exact this
variable {c:Code}{cs:List Frame}
section
variable {b:Frame}{k:List Item}{F:Fence}
theorem nN :Go.step P (lone (b.atR a (.code (.scope c)::k)) cs w)= .next (lone (b.atR a (.code c:: .inScope c::k)) cs w):=
 step_lone_go (by simp[stepG,stepG.exec,Frame.atR])
theorem aJs :Go.step P (lone (b.atR a (.inScope c::k)) cs w)= .next (lone (b.atR a k) cs w):=
 step_lone_go (by simp[stepG,stepG.exec,Frame.atR])
theorem aQ8 (h:c.wpIn F n P (Exit.noGoto Q) a w):(Code.scope c).wpIn F n P Q a w:=by
 intro b k cs hro hb hr;have h0:(lone (b.atR a (.code (.scope c)::k)) cs w).fenced P F:=fenced_calm hb hr rfl;obtain⟨e,a₁,w₁,hq,harr⟩:=h b (.inScope c::k) cs hro hb hr;cases e with
 |normal=>exact⟨.normal,a₁,w₁,hq,.head h0 nN (StepsIn.trans harr (.one (fenced_calm hb hr rfl) aJs))⟩
 |exit id'=>
  have hx:exitTo id' (.inScope c::k)=exitTo id' k:=by simp[exitTo]
  exact⟨.exit id',a₁,w₁,hq,fun k' hk=> .head h0 nN (harr.1 k' (by rw[hx];exact hk)),
   fun hr' hk=>let ⟨k₁,h1,h2⟩:=harr.2 hr' (by rw[hx];exact hk);⟨k₁,h1,.head h0 nN h2⟩⟩
 |goto l=>exact hq.elim
 |ret=>exact⟨_,a₁,w₁,hq,.of_steps (.one h0 nN) harr⟩
 |panic ch=>exact⟨_,a₁,w₁,hq,.of_steps (.one h0 nN) harr⟩
 |outgrown=>exact⟨_,a₁,w₁,hq,.of_steps (.one h0 nN) harr⟩
end
theorem aXd (hm:P.follows .mixedOrders=true){L:bJ}(hL:pW P L)(hc:lJ P (bM L 8 (exec L n)))(hF:aF6 P L n)(ihs: ∀m,m<=n->wD P L m):wD P L (n+1):=by
 have ih:=ihs n (bOy _);have hio:=aZ2 hL hF ih;intro I N c
 induction c<;>intro st e st' Ξ B S G a w Q m hd hnr hR hx hQ
 case skip=>
  simp only[cG,exec,bOw,bO1]at hx;obtain⟨rfl,rfl⟩:=hx;exact wpIn_skip (hQ a w G undef trivial hR.e (Below.refl _ _))
 case label l=>
  simp only[cG,exec,bOw,bO1]at hx;obtain⟨rfl,rfl⟩:=hx;exact wpIn_label (hQ a w G undef trivial hR.e (Below.refl _ _))
 case region id ops dr=>
  cases dr with
  |false=>
   simp only[cG,bO0,if_false]at hd hx;cases hlow:cU (fD P I ops) ops.toList with
   |none=>rw[hlow]at hx;exact(wY hx).elim
   |some l=>
    rw[hlow]at hx hd;simp only[bPq,bPp]at hx hd;cases hX:l.any (aD4 I)with
    |true=>
     simp only[hX,if_true]at hx hd;rw[exec]at hx
     refine wpIn_region ?_
     rw[bR2];exact aUf hc hio (aUk hL hF) (aJn hL hF) hlow hd ops.size 0 st st' e G a w (by omega) hR (by simpa using hx) hQ
    |false=>
    simp only[hX,bO0,if_false]at hx hd;rw[exec]at hx;obtain⟨s1,hrun,he⟩:=bPa.1 hx;simp only[bO1]at he;obtain⟨rfl,rfl⟩:=he
    refine wpIn_region ?_
    rw[bR2];exact aW9 hc hio hlow hd ops.size 0 st s1 G a w (by omega) hR (by simpa using hrun) fun a' w' G' h1 h2=>hQ a' w' G' undef trivial h1.e h2
  |true=>
   simp only[cG,if_true]at hd hx;cases hld:aOa P I ops with
   |none=>rw[hld]at hx;exact(wY hx).elim
   |some c'=>
    rw[hld]at hx hd;simp only[aOa,bPj,bO9,bPl,bOw]at hld;obtain⟨l,hlow,an,han,ps,hps,rfl⟩:=hld;have hb:Below w.heap.size w {w with drawn:=w.drawn+1}:=(Below.refl _ w).drew;have hd':l.all (fun o=>o.dst.all (· <N))=true:=by
     cases hX:l.any (aD4 I)with
     |false=>simpa[hX,bB.dstOk]using hd
     |true=>
      cases hlt:aTu an l<;>simpa[hX,hlt,bB.dstOk]using hd
    have drawOk: ∀s1 rs,iV 8 (bM L 8 (exec L n)) (eW L (exec L n)) 0 l st=some (s1,rs)->dS rs ps=true->e= .normal->st'=s1->(Code.region id ops true).wpIn (Fx Ξ.ro) m P Q a w:=by
     rintro s1 rs hrun hok rfl rfl
     refine wpIn_region_any hm (aXa (Ξ:=Ξ) (B:=B) (S:=S) hc hio hlow hd' han hps hrun hok ops.size (Array.replicate ops.size false) G a _ (by simp) ?_ ?_ ?_ ?_)
     ·refine bPb bR6 (by simp)
     ·intro j o ho hL;simp[bQr]at hL
      split at hL<;>simp at hL
     ·rw[cN (L':=fun _=>false) fun i _=>by simp[bQr];split<;>simp]
      have: ∀(k:Nat),dM (fun k=>eQ (l.getD k default) (rs.getD k cF)) (fun _=>false) st k=st:=by
       intro k;induction k with
       |zero=>rfl
       |succ k ih=>simp only[dM,bO0,if_false];exact ih
      rw[this];exact hR.below hb
     ·exact fun a' w' G' h1 h2=>hQ a' w' G' undef trivial h1.e ⟨h2.os,h2.tape,h2.output,h2.size,h2.block⟩
    cases hX:l.any (aD4 I)with
    |true=>
     simp only[hX,if_true,bPp]at hx;cases hlt:aTu an l with
     |some A=>
      simp only[hlt]at hx;rw[exec]at hx;have hlate:=List.find?_some hlt;have hA:A<l.length:=bPu.1 (List.mem_of_find?_eq_some hlt);simp only[aY9,bOx,bRw,bRx,bQk]at hlate;obtain⟨⟨⟨⟨_,hg⟩,hop⟩,d,hdst⟩,_⟩:=hlate;obtain⟨z,hAo⟩: ∃z,l.getD A default={dst:=some d,op:= .alloc z,guard:=none}:=by
       generalize l.getD A default=o at hg hop hdst;obtain⟨od,oo,og⟩:=o
       simp only at hg hop hdst
       subst hg hdst;cases oo<;>first|exact⟨_,rfl⟩|cases hop
      have hkey:iH st (l.getD A default)=⟨0,d,st.cnt 0 d⟩:=by rw[hAo];rfl
      have hz:aMo (l.getD A default).op=z:=by rw[hAo];rfl
      rw[hkey,hz]at hx;have hvk: ¬Ξ.virt ⟨0,d,st.cnt 0 d⟩:=fun hv=>by have:=(hR.virt _ hv).2;simp at this
      have hR':=(hR.below hb).reserve (k:=⟨0,d,st.cnt 0 d⟩) (z:=z) rfl;have hek:(vG ⟨0,d,st.cnt 0 d⟩ z st).en ⟨0,d,st.cnt 0 d⟩=some (.box z false):=by simp[vG,En.set]
      unfold wS at hx
      split at hx
      ·rename_i j hj
       split at hx
       case h_2=>cases hx
       rename_i s1 rs hrun
       split at hx
       case isFalse=>cases hx
       rename_i hck;rw[bOx]at hck
       split at hx
       case h_2=>cases hx
       rename_i v s2 hpj;simp only[bOw,bO1]at hx;obtain⟨rfl,rfl⟩:=hx;have hjl:j<l.length:=by have:=aJl _ hj;rw[pX]at this;omega
       have hjA:j≠A:=by
        rintro rfl
        rw[tV hA,if_pos rfl]at hpj;simp[dT,zG,wanted]at hpj
       exact wpIn_region_any hm (aXc (Ξ:=Ξ) (B:=B) (S:=S) hc hio (aUk hL hF) (aJn hL hF) hlow hd' han hps hA hAo hvk rfl hjl hjA hrun hck.1 hck.2 hek hpj hR'
        fun a' w' G' x h1 h2 h3=>hQ a' w' G' x h1 h2 ⟨h3.os,h3.tape,h3.output,h3.size,h3.block⟩)
      ·split at hx
       case h_2=>cases hx
       rename_i s1 rs hrun
       split at hx
       case isFalse=>cases hx
       rename_i hck;rw[bOx]at hck;simp only[bOw,bO1]at hx;obtain⟨rfl,rfl⟩:=hx
       refine wpIn_region_any hm (aZ1 (Ξ:=Ξ) (B:=B) (S:=S) hc hio hlow hd' han hps hA hAo hvk hrun hck.1 hck.2 hek ops.size (Array.replicate ops.size false) G a _ (by simp) ?_ ?_ ?_ ?_)
       ·refine bPb bR6 (by simp)
       ·intro j o ho hL;simp[bQr]at hL
        split at hL<;>simp at hL
       ·rw[cN (L':=fun _=>false) fun i _=>by simp[bQr];split<;>simp]
        have: ∀(k:Nat),dM (fun k=>eQ ((iY A ⟨0,d,st.cnt 0 d⟩ l).getD k default) (rs.getD k cF)) (fun _=>false) (vG ⟨0,d,st.cnt 0 d⟩ z st) k=vG ⟨0,d,st.cnt 0 d⟩ z st:=by
         intro k;induction k with
         |zero=>rfl
         |succ k ih=>simp only[dM,bO0,if_false];exact ih
        have hf: ¬(Array.replicate ops.size false).getD A false=true:=by
         rw[bPc,bQr]
         split<;>simp
        rw[this,if_neg hf];exact hR'
       ·exact fun a' w' G' h1 h2=>hQ a' w' G' undef trivial h1.e ⟨h2.os,h2.tape,h2.output,h2.size,h2.block⟩
     |none=>
     simp only[hlt]at hx;rw[exec]at hx
     split at hx
     ·rename_i j hj;exact wpIn_region_any hm (aUh (Ξ:=Ξ) (B:=B) (S:=S) hc hio (aUk hL hF) (aJn hL hF) hlow hd' han hps (by have:=aJl _ hj;omega) hx (hR.below hb)
       fun a' w' G' x h1 h2 h3=>hQ a' w' G' x h1 h2 ⟨h3.os,h3.tape,h3.output,h3.size,h3.block⟩)
     ·split at hx
      case h_2=>cases hx
      rename_i s1 rs hrun
      split at hx
      case isFalse=>cases hx
      rename_i hok;simp only[bOw,bO1]at hx;exact drawOk s1 rs hrun hok hx.1.symm hx.2.symm
    |false=>
     simp only[hX,bO0,if_false,bPp]at hx;rw[exec]at hx
     split at hx
     case h_2=>cases hx
     rename_i s1 rs hrun
     split at hx
     case isFalse=>cases hx
     rename_i hok;simp only[bOw,bO1]at hx;exact drawOk s1 rs hrun hok hx.1.symm hx.2.symm
 case seq x y _ _=>
  simp only[cG,bB.dstOk,bOx]at hd;simp only[cG,exec]at hx
  refine wpIn_seq ?_
  cases h1:exec L n (cG P I x) st with
  |none=>rw[h1]at hx;cases hx
  |some p=>
   obtain⟨e1,s1⟩:=p;rw[h1]at hx;have hnr1:Ξ.nm=true->(cG P I x).noRg=true/\ (cG P I y).noRg=true:=fun h=>by simpa[cG,bB.noRg]using hnr h
   refine ih I N x st e1 s1 Ξ B S G a w _ m hd.1 (fun h=>(hnr1 h).1) hR h1 fun a1 w1 G1 x1 hx1 hR1 hb1=>?_
   cases e1 with
   |panic v=>simp only[bOw,bO1]at hx;obtain⟨rfl,rfl⟩:=hx;exact hQ a1 w1 G1 x1 hx1 hR1 hb1
   |normal=>exact ih I N y s1 e st' Ξ B S G1 a1 w1 _ m hd.2 (fun h=>(hnr1 h).2) (hR1.rel rfl) hx fun a2 w2 G2 x2 hx2 hR2 hb2=>hQ a2 w2 G2 x2 hx2 hR2 (hb1.trans hb2)
   |exit id=>simp only[bOw,bO1]at hx;obtain⟨rfl,rfl⟩:=hx;exact hQ a1 w1 G1 x1 trivial hR1 hb1
   |ret=>simp only[bOw,bO1]at hx;obtain⟨rfl,rfl⟩:=hx;exact hQ a1 w1 G1 x1 trivial hR1 hb1
 case cond z x y _ _=>
  simp only[cG]at hd hx;cases hz':aO z with
  |none=>rw[hz']at hx;exact(wY hx).elim
  |some z'=>
   rw[hz']at hx hd;simp only[bB.dstOk,bOx]at hd;have hnr1:Ξ.nm=true->(cG P I x).noRg=true/\ (cG P I y).noRg=true:=fun h=>by simpa[cG,hz',bB.noRg]using hnr h
   simp only[exec]at hx;have hv:=aU hR hz'
   split at hx
   ·rename_i hz;rw[hz]at hv;have:a.eval z= .bool true:=by generalize a.eval z=q at hv;cases hv;rfl
    exact wpIn_cond_true this (ih I N x st e st' Ξ B S G a w Q m hd.1 (fun h=>(hnr1 h).1) hR hx hQ)
   ·rename_i hz;rw[hz]at hv;have:a.eval z= .bool false:=by generalize a.eval z=q at hv;cases hv;rfl
    exact wpIn_cond_false this (ih I N y st e st' Ξ B S G a w Q m hd.2 (fun h=>(hnr1 h).2) hR hx hQ)
   ·cases hx
 case block id x _=>
  simp only[cG,bB.dstOk]at hd;simp only[cG,exec]at hx
  refine wpIn_block ?_
  cases h1:exec L n (cG P I x) st with
  |none=>rw[h1]at hx;cases hx
  |some p=>
   obtain⟨e1,s1⟩:=p;rw[h1]at hx
   refine ih I N x st e1 s1 Ξ B S G a w _ m hd (fun h=>by simpa[cG,bB.noRg]using hnr h) hR h1 fun a1 w1 G1 x1 hx1 hR1 hb1=>?_
   cases e1 with
   |panic v=>simp only[bOw,bO1]at hx;obtain⟨rfl,rfl⟩:=hx;exact hQ a1 w1 G1 x1 hx1 hR1 hb1
   |normal=>simp only[bOw,bO1]at hx;obtain⟨rfl,rfl⟩:=hx;exact hQ a1 w1 G1 x1 trivial hR1 hb1
   |exit id'=>
    simp only at hx
    simp only[Ex.toExit,Exit.inBlock]
    split at hx
    ·rename_i he;rw[if_pos he];simp only[bOw,bO1]at hx;obtain⟨rfl,rfl⟩:=hx;exact hQ a1 w1 G1 x1 trivial hR1 hb1
    ·rename_i he;rw[if_neg he];simp only[bOw,bO1]at hx;obtain⟨rfl,rfl⟩:=hx;exact hQ a1 w1 G1 x1 trivial hR1 hb1
   |ret=>simp only[bOw,bO1]at hx;obtain⟨rfl,rfl⟩:=hx;exact hQ a1 w1 G1 x1 trivial hR1 hb1
 case loop x _=>
  simp only[cG,bB.dstOk]at hd;simp only[cG]at hx;have key: ∀k s1 G1 a1 w1,k<=n+1->Rel P Ξ B S G1 s1 N a1 w1->exec L k (.loop (cG P I x)) s1=some (e,st')->Below B w w1->Code.roundsIn (Fx Ξ.ro) m P x Q k a1 w1:=by
   intro k
   induction k with
   |zero=>intro s1 G1 a1 w1 _ _ hx1 _;simp[exec]at hx1
   |succ k ihk=>
    intro s1 G1 a1 w1 hk hR1 hx1 hb1;simp only[exec]at hx1;rw[roundsIn_succ];cases h1:exec L k (cG P I x) s1 with
    |none=>rw[h1]at hx1;cases hx1
    |some p=>
     obtain⟨e1,s2⟩:=p;rw[h1]at hx1
     refine ihs k (by omega) I N x s1 e1 s2 Ξ B S G1 a1 w1 _ m hd (fun h=>by simpa[cG,bB.noRg]using hnr h) hR1 h1 fun a2 w2 G2 x2 hx2 hR2 hb2=>?_
     cases e1 with
     |panic v=>simp only[bOw,bO1]at hx1;obtain⟨rfl,rfl⟩:=hx1;exact hQ a2 w2 G2 x2 hx2 hR2 (hb1.trans hb2)
     |normal=>exact ihk s2 G2 a2 w2 (by omega) (hR2.rel rfl) hx1 (hb1.trans hb2)
     |exit id=>simp only[bOw,bO1]at hx1;obtain⟨rfl,rfl⟩:=hx1;exact hQ a2 w2 G2 x2 trivial hR2 (hb1.trans hb2)
     |ret=>simp only[bOw,bO1]at hx1;obtain⟨rfl,rfl⟩:=hx1;exact hQ a2 w2 G2 x2 trivial hR2 (hb1.trans hb2)
  exact wpIn_loop_rounds (n+1) (key (n+1) st G a w (bOy _) hR hx (Below.refl _ _))
 case exit id=>
  simp only[cG,exec,bOw,bO1]at hx;obtain⟨rfl,rfl⟩:=hx;exact wpIn_exit (hQ a w G undef trivial hR.e (Below.refl _ _))
 case ret=>
  simp only[cG,exec,bOw,bO1]at hx;obtain⟨rfl,rfl⟩:=hx;exact wpIn_ret (hQ a w G undef trivial hR.e (Below.refl _ _))
 case rangeFunc g ps ca cb _ _=>
  simp only[cG]at hd hx;cases hg:aO g with
  |none=>rw[hg]at hx;exact(wY hx).elim
  |some g'=>
   rw[hg]at hx hd;simp only[bB.dstOk,bOx]at hd;simp only[exec]at hx;have hnm:Ξ.nm=false:=by
    cases h:Ξ.nm with
    |false=>rfl
    |true=>have:=hnr h;simp[cG,hg,bB.noRg]at this
   exact aUl hL hF hg hd.1.1 hd.1.2 hd.2 hnm hR hx hQ
 case scope x ihx=>
  refine aQ8 (ihx st e st' Ξ B S G a w _ m hd hnr hR hx fun a1 w1 G1 x1 hx1 hR1 hb1=>?_)
  have:=hQ a1 w1 G1 x1 hx1 hR1 hb1;cases e<;>exact this
 all_goals (simp only[cG]at hx;exact(wY hx).elim)
def Ex.mode (x:Value):Ex->FrameMode
 | .panic _=> .panicking (yE x)
 |_=> .returning
theorem Ex.mode_run {x:Value}:e.mode x≠ .run:=by cases e<;>simp[Ex.mode]
variable {lc:bB}{ops:Array Oper}{ts:List Nat}
theorem aQ9 {k:Call}{y:Code}(h:aTv P I ts ops k y=some lc):
  ∃F f args l,k.callee= .value F/\ aO F=some f/\ jH k.args.toList=some args/\ cU (fD P I ops) ops.toList.dropLast=some l/\ lc= .dfr ts l f args (cG P I y):=by
 simp only[aTv]at h
 split at h
 case h_2=>cases h
 rename_i F hF
 split at h
 case h_2=>cases h
 rename_i f args l h1 h2 h3;simp only[bOw]at h;exact⟨F,f,args,l,hF,h1,h2,h3,h.symm⟩
theorem aZ3 (h:aBn P I ts c=some lc):lc.isRcv=false:=by
 cases c<;>simp only[aBn,reduceCtorEq]at h
 split at h
 ·obtain⟨_,_,_,_,_,_,_,_,rfl⟩:=aQ9 h;rfl
 ·split at h
  ·simp only[bOw]at h;subst h;rfl
  ·cases h
variable {l:List aM}
theorem bC1 {dst:Option Nat}{b:bB}(h:aD6 P I ts c=some (.rcv dst l b)):
  ∃id ops c' o jE,c= .seq (.region id ops false) c'/\ ops.toList=o::jE/\ aFz o=true/\ jE.all aOb=true/\ cU (fD P I ops) jE=some l/\ dst=o.dst/\ b=cG P I c'/\ (cG P I c').noRg=true:=by
 simp only[aD6]at h
 split at h
 ·rename_i x hx;simp only[bOw]at h;subst h;unfold aTw at hx
  split at hx
  case h_2=>cases hx
  rename_i id ops c'
  split at hx
  case h_2=>cases hx
  rename_i o jE ho
  split at hx
  case isFalse=>cases hx
  rename_i hc;simp only[bOx]at hc;obtain⟨l',hl,he⟩:=bPa.1 hx;simp only[bB.rcv.injEq]at he;obtain⟨rfl,rfl,rfl⟩:=he;exact⟨_,ops,c',o,jE,rfl,ho,hc.1.1,hc.1.2,hl,rfl,rfl,hc.2⟩
 ·split at h
  ·rename_i x hx;simp only[bOw]at h;subst h;have:=aZ3 hx;cases this
  ·split at h
   ·cases h
   ·rename_i hn;simp only[bOw]at h;rw[h]at hn;simp[bB.isRcv]at hn
variable {call:bH}{io:Inl}
section
variable {ro:Option Nat}
theorem bC2 (hcall:lJ P call)(hio:wW P io)(hl: ∀i (h:i<l.length),∃h':i<ops.size,fD P I ops ops[i]=some l[i])(hd:l.all (fun o=>o.dst.all (· <N))=true){jE:List Nat}:
  ∀(k i:Nat) (st st':St) (G:Gh) (a:Act) (w:World),i+k=l.length->Rel P Ξ B S G st N a w->gJ n call io 0 (l.drop i) st=some st'->
   (∀a' w' G',Rel P Ξ B S G' st' N a' w'->Below B w w'->wpOpsIn (Fx ro) m P ops Q jE a' w')->wpOpsIn (Fx ro) m P ops Q (List.range' i k++jE) a w:=by
 intro k
 induction k with
 |zero=>
  intro i st st' G a w hik hR hrun hQ;have:l.drop i=[]:=bR4.2 (by omega)
  rw[this]at hrun;simp only[gJ,bOw]at hrun;subst hrun;exact hQ a w G hR (Below.refl _ _)
 |succ k ih=>
  intro i st st' G a w hik hR hrun hQ;have hil:i<l.length:=by omega
  obtain⟨hi,hlow⟩:=hl i hil;rw[bPy hil]at hrun;simp only[gJ]at hrun
  split at hrun
  case h_2=>cases hrun
  rename_i st1 r hs;rw[bRu,bRa,wpOpsIn_cons];unfold wpOpIn;rw[bPk hi];exact oW hcall hio hR hlow (bO4.1 hd _ (bO6 hil)) hs fun a' w' G' h1 h2=>
   ih (i+1) st1 st' G' a' w' (by omega) h1 hrun fun a'' w'' G'' h3 h4=>hQ a'' w'' G'' h3 (h2.trans h4)
theorem aRa (hl: ∀i (h:i<l.length),∃h':i+1<ops.size,aOb ops[i+1]=true/\ fD P I ops ops[i+1]=some l[i])(hd:l.all (fun o=>o.dst.all (· <N))=true){Q:Exit->Act->List Frame->World->Prop}:
  ∀(k i:Nat) (st st':St) (G:Gh) (a:Act),i+k=l.length->Rel P Ξ B S G st N a w->gJ n call io 0 (l.drop i) st=some st'->
   (∀a' G',Rel P Ξ B S G' st' N a' w->Q .normal a' cs w)->wpOpsSIn Fence.wide m P ops Q (List.range' (i+1) k) a cs w:=by
 intro k
 induction k with
 |zero=>
  intro i st st' G a hik hR hrun hQ;have:l.drop i=[]:=bR4.2 (by omega)
  rw[this]at hrun;simp only[gJ,bOw]at hrun;subst hrun;exact hQ a G hR
 |succ k ih=>
  intro i st st' G a hik hR hrun hQ;have hil:i<l.length:=by omega
  obtain⟨hi,hmv,hlow⟩:=hl i hil;rw[bPy hil]at hrun;simp only[gJ]at hrun
  split at hrun
  case h_2=>cases hrun
  rename_i st1 r hs;have hdi:=bO4.1 hd _ (bO6 hil);rw[bRu];simp only[wpOpsSIn,bPk hi]
  refine⟨fun _ _=>trivial,?_⟩
  simp only[fD,bPj,bO9,bPl,bOw]at hlow;obtain⟨lop,hop,g,hg,he⟩:=hlow;have hmv': ∃x,(ops[i+1].op= .assign x \/ops[i+1].op= .move x)/\ ops[i+1].guard=none:=by
   unfold aOb at hmv
   split at hmv
   ·rename_i h1 h2;exact⟨_,.inl h1,h2⟩
   ·rename_i h1 h2;exact⟨_,.inr h1,h2⟩
   ·cases hmv
  obtain⟨x,hx,hgd⟩:=hmv';have hw:Region.wanted ops[i+1] (yielded ops a.tmps)=true:=by simp[Region.wanted,hgd]
  have hrun1:(execOp a.eval ops[i+1]).run P w= .ok (.value (a.eval x)) w:=by
   rcases hx with hx|hx<;>simp[execOp,hx]
  obtain⟨y,hy,hlop⟩: ∃y,aO x=some y/\ lop= .mv y:=by
   rcases hx with hx|hx<;>rw[hx]at hop<;>(obtain⟨y,h1,h2⟩:=bPa.1 hop;exact⟨y,h1,h2.symm⟩)
  have hg':g=none:=by rw[hgd]at hg;simpa[zW]using hg.symm
  rw[<-he,hlop,hg']at hs;rw[<-he]at hdi;simp only[step,wanted,eval,bPm,bO0,if_false,W.applyAll,bRc,bOw,bO1]at hs;obtain⟨rfl,rfl⟩:=hs;simp only[hw,if_true,hrun1];exact ih (i+1) _ st' G _ (by omega) (hR.putO' ops[i+1].dst (aU hR hy) hdi) hrun hQ
end
theorem aRb {L:bJ}(hL:pW P L)(hE:wD P L n)(hcall:lJ P (bM L 8 (exec L n)))(hio:wW P (eW L (exec L n))){g:Nat}{A Z:List Val}
  (h:iB L (exec L n) (.fn g A Z) args e st=some st'):st'.fr=st.fr∧(∃fn,P.funcs[g]?=some fn∧(fn.name== "runtime.NumGoroutine")=false∧fn.body.isNone=false)∧
  ∀(Ξ:Env) (B:Nat) (S:Nat->Nat->Prop) (G:Gh) (N:Nat) (a:Act) (w:World) (vals:Array Value) (x:Value) (m:Nat),e.val x->Rel P Ξ B S G st N a w->vals.size=(A++args++Z).length->
   (∀i,i<(A++args++Z).length->VR (aX B S G w.heap.size) G w ((A++args++Z).getD i .dead) (vals.getD i undef))->
   CallsDIn Fence.wide m P g vals (e.mode x) w fun ed u' w'=> ∃G' y,ed= .returned y/\ settle u'= .returning/\ Rel P Ξ B S G' st' N a w'/\ Below B w w':=by
 simp only[iB]at h
 split at h
 case h_2=>cases h
 rename_i lf hlf
 split at h
 case h_2=>cases h
 rename_i dst l cb v hbody hrv
 split at h
 case isFalse=>cases h
 rename_i hc;obtain⟨hlen,hres0⟩:=hc
 split at h
 case h_2=>cases h
 rename_i st1 hmoves
 split at h
 case h_2=>cases h
 rename_i e' st2 hx
 split at h
 case isFalse=>cases h
 rename_i hends;simp only[bOw]at h;subst h;obtain⟨fn,I,keep,amb,hfn,hlow⟩:=hL g lf hlf;obtain⟨c,hb,hlb,hdst,hnp,hname,hres⟩:=wX hlow;rw[hbody]at hlb hdst;obtain⟨id,ops,c',o,jE,rfl,hops,hrec,hmv,hl,rfl,rfl,hnr⟩:=bC1 hlb
 refine⟨rfl,⟨fn,hfn,hname,by rw[hb];rfl⟩,fun Ξ B S G N a w vals x m hxv hR hvl hv=>?_⟩
 simp only[bB.dstOk,bOx]at hdst;obtain⟨⟨hd1,hd2⟩,hd3⟩:=hdst;obtain⟨Ds0,q1,q2,q3⟩:=hR.marks;have hR1:=aF8 (st0:=st) (fn:=fn) (nm:=true) hR q3 rfl rfl hvl (by omega) hv
 have hsz:ops.size=jE.length+1:=by
  have:=congrArg List.length hops
  simpa using this
 have h0:ops[0]?=some o:=by
  have:ops.toList[0]?=some o:=by rw[hops];rfl
  simpa using this
 have hro: ∃cl,o.op= .call cl/\ cl.callee= .builtin .recover/\ o.guard=none:=by
  unfold aFz at hrec
  split at hrec
  ·rename_i cl h1 h2
   split at hrec
   ·rename_i h3;exact⟨cl,h1,h3,h2⟩
   ·cases hrec
  ·cases hrec
 obtain⟨cl,ho1,ho2,ho3⟩:=hro;obtain⟨m1,m2⟩:=eR hl
 refine callsDIn_of_wpSIn hfn hb trivial fun c₀ cs hmode=>?_
 refine wpSIn_seq (wpSIn_region ?_)
 rw[hsz,bR2,bRu];simp only[wpOpsSIn,h0]
 refine⟨fun _ _=>trivial,?_⟩
 have hw:Region.wanted o (yielded ops (aQ6 fn vals).tmps)=true:=by simp[Region.wanted,ho3]
 have hrunr: ∀(ρ:Operand->Value) (w:World),(execOp ρ o).run P w= .ok .recover w:=by
  intro ρ w;simp[execOp,ho1,resolve,ho2,invoke,builtin]
 unfold aQ6 at hw;simp only[hw,if_true,hrunr];have behindR: ∀(y:Value) (u':FrameMode),settle u'= .returning->FV v y->
   wpOpsSIn Fence.wide m P ops (Exit.thenS (Code.wpSIn Fence.wide m P c' (bodyPostS P fn c₀ cs fun ed u' w'=> ∃G' y,ed= .returned y/\ settle u'= .returning/\ Rel P Ξ B S G' {fr:=st.fr,en:=st2.en,cnt:=st2.cnt} N a w'/\ Below B w w'))
    (bodyPostS P fn c₀ cs fun ed u' w'=> ∃G' y,ed= .returned y/\ settle u'= .returning/\ Rel P Ξ B S G' {fr:=st.fr,en:=st2.en,cnt:=st2.cnt} N a w'/\ Below B w w')) (List.range' (0+1) jE.length) ((aQ6 fn vals).put o.dst y) ({c₀ with mode:=u'}::cs) w:=by
  intro y u' hu' hvy;have hR2:=hR1.putO' o.dst (v:=v) (x:=y) (hvy _ _ _) hd1
  refine aRa (N:=fn.ntmps) (st':=st1) (G:=G) (n:=8) (call:=bM L 8 (exec L n)) (io:=eW L (exec L n)) (l:=l) (I:=I) ?_ hd2 jE.length 0 _ _ (by rw[m1];omega) hR2 (by simpa using hmoves) fun a4 G4 hR4=>?_
  ·intro i hi;have hi':i<jE.length:=by omega
   have hi2:i+1<ops.size:=by omega
   have he:ops[i+1]=jE[i]:=by
    have:ops.toList[i+1]?=jE[i]?:=by rw[hops];rfl
    rw[bP7 hi',Array.getElem?_toList,bPk hi2]at this;exact Option.some.inj this
   refine⟨hi2,?_,?_⟩
   ·rw[he];exact bO4.1 hmv _ (bO6 hi')
   ·rw[he];exact m2 i hi' hi
  ·refine wpSIn_of_wpIn rfl ?_
   refine hE I fn.ntmps c' st1 e' st2 _ B S G4 a4 w _ m hd3 (fun _=>hnr) hR4 hx fun a5 w5 G5 x5 _ hR5 hb5=>?_
   have fin:e'.calm=true->a5.defers=[]/\ ∃u'',({c₀ with mode:=u'}::cs:List Frame)={c₀ with mode:=u''}::cs/\ ∃v,(results fn a5.tmps).run P w5= .ok v w5/\
     ∃G' y,Ending.returned v= .returned y/\ settle u''= .returning/\ Rel P Ξ B S G' {fr:=st.fr,en:=st2.en,cnt:=st2.cnt} N a w5/\ Below B w w5:=by
    intro hcalm;have hR6:=hR5.rel hcalm;obtain⟨Ds,r1,r2,r3⟩:=hR6.marks;have hDs:=r2.2 rfl;subst hDs;have hlr:lf.res=[]:=by simpa using hres0
    rw[hlr]at hres;obtain⟨y5,hy5,_⟩:=wE hR6 hres (vs:=[]) rfl;exact⟨by simpa using r1,u',rfl,y5,hy5,G5,y5,rfl,hu',aF9 (ste:=st2) hR.tmps q1 q2 (fun D hD=>⟨(q3 D hD).1,(q3 D hD).2.1⟩) hR6,hb5⟩
   cases e' with
   |normal=>exact fin rfl
   |ret=>exact fin rfl
   |exit id=>cases hends
   |panic v=>cases hends
 cases e with
 |panic vp=>
  simp only[Ex.mode]at hmode;simp only[Ex.rcvd,bOw]at hrv;subst hrv;have hrc:recoverD (c₀::cs)=some (x,{c₀ with mode:= .panicking [{v:=x,recovered:=true}]}::cs):=by simp[recoverD,hmode,yE]
  simp only[hrc];exact behindR x _ (by simp[settle]) hxv
 |exit id=>cases hrv
 |normal=>
  simp only[Ex.mode]at hmode;simp only[Ex.rcvd,bOw]at hrv;subst hrv;have hrc:recoverD (c₀::cs)=none:=by simp[recoverD,hmode]
  simp only[hrc];have:=behindR .nilIface .returning rfl (fun _ _ _=> .nili)
  have ec:({c₀ with mode:=FrameMode.returning}:Frame)=c₀:=by rw[<-hmode]
  rw[ec]at this;exact this
 |ret=>
  simp only[Ex.mode]at hmode;simp only[Ex.rcvd,bOw]at hrv;subst hrv;have hrc:recoverD (c₀::cs)=none:=by simp[recoverD,hmode]
  simp only[hrc];have:=behindR .nilIface .returning rfl (fun _ _ _=> .nili)
  have ec:({c₀ with mode:=FrameMode.returning}:Frame)=c₀:=by rw[<-hmode]
  rw[ec]at this;exact this
theorem aMz {α β:Type}{f g:α->Sem β}: ∀{l:List α},(∀x∈l,f x=g x)->l.mapM f=l.mapM g
 |[],_=>by simp
 |x::l,h=>by
  simp only[List.mapM_cons];rw[h x (by simp),aMz fun y hy=>h y (by simp[hy])]
variable {fn:Func}
theorem aOu {tm tm':Array Value}(h: ∀t∈aD5 fn.results.toList,tm.getD t undef=tm'.getD t undef):results fn tm=results fn tm':=by
 have:(fn.results.mapM fun(rv:ResultVar)=>(match rv with
   | .tmp t=>(pure (tm.getD t undef):Sem Value)
   | .cell c t=>do loadVar t (<-asAddr (tm.getD c undef))))=(fn.results.mapM fun(rv:ResultVar)=>(match rv with
   | .tmp t=>(pure (tm'.getD t undef):Sem Value)
   | .cell c t=>do loadVar t (<-asAddr (tm'.getD c undef)))):=by
  rw[bSf,bSf]
  congr 1
  refine aMz fun rv hrv=>?_
  have ht:=h (match rv with| .tmp t=>t| .cell c _=>c) (by simp only[aD5,bPt];exact⟨rv,hrv,by cases rv<;>rfl⟩)
  cases rv with
  |tmp t=>simp only at ht⊢;rw[ht]
  |cell c t=>simp only at ht⊢;rw[ht]
 simp only[results];exact congrArg (fun z=>z>>=_) this
theorem bC3 {L:bJ}(hL:pW P L){R:Ending->World->Prop}{w0:World}(hro:Ξ.ro=none)(ht:Ξ.tail=[])(hnm:Ξ.nm=false)
  (k: ∀a1 w1 G1 x,e.val x->a1.defers=[]->Rel P Ξ B S G1 st' fn.ntmps a1 w1->Below B w0 w1->e.fin P fn a1 w1 R x):
  ∀(n:Nat),(∀m,m<n->wD P L m/\ lJ P (bM L 8 (exec L m))/\ wW P (eW L (exec L m)))-> ∀(y:Code) (ly:bB) (st:St) (G:Gh) (a:Act) (w:World),aBn P I (aD5 fn.results.toList) y=some ly->ly.dstOk fn.ntmps=true->
   exec L n ly st=some (e,st')->Rel P Ξ B S G st fn.ntmps a w->Below B w0 w->y.wpIn (Fx none) 0 P (bodyPostM Fence.wide 0 P fn R) a w:=by
 intro n
 induction n with
 |zero=>intro _ y ly st G a w _ _ hx;simp[exec]at hx
 |succ n ih=>
  intro hall y ly st G a w hly hdst hx hR hB;obtain⟨hE,hcall,hio⟩:=hall n (by omega)
  have hplain: ∀{ro:Option Nat},ro=none->Fx ro=Fx none:=fun h=>by rw[h]
  cases y<;>simp only[aBn,reduceCtorEq]at hly
  rename_i x y
  split at hly
  ·-- the deferred call
   rename_i ops kc hdf;obtain⟨F,f,args,l,hcf,hf,hargs,hl,rfl⟩:=aQ9 hly;unfold aZa at hdf
   split at hdf
   case h_2=>cases hdf
   rename_i id ops'
   split at hdf
   case h_2=>cases hdf
   rename_i o hback
   split at hdf
   case h_2=>cases hdf
   rename_i kc' hop hgd hdo;simp only[bOw,bO1]at hdf;obtain⟨rfl,rfl⟩:=hdf;simp only[bB.dstOk,bOx]at hdst;obtain⟨hd1,hd2⟩:=hdst;rw[exec]at hx
   split at hx
   case h_2=>cases hx
   rename_i st2 hpre
   split at hx
   case h_2=>cases hx
   rename_i eb st3 hbx
   split at hx
   ·cases hx
   rename_i hts;obtain⟨st4,hdfr,he⟩:=bPa.1 hx;simp only[bO1]at he;obtain⟨rfl,rfl⟩:=he;obtain⟨m1,m2⟩:=eR hl;have hne:ops'.size≠0:=by
    intro h0;have:ops'= #[]:=Array.eq_empty_of_size_eq_zero h0;rw[this]at hback;simp at hback
   have hll:l.length=ops'.size-1:=by rw[m1];simp
   have hlast:ops'[l.length]?=some o:=by rw[hll];rw[Array.back?_eq_getElem?]at hback;exact hback
   refine wpIn_seq (wpIn_region ?_)
   rw[show ops'.size=l.length+1 by omega,List.range_succ,bR2]
   refine bC2 (N:=fn.ntmps) (Ξ:=Ξ) (B:=B) (S:=S) hcall hio (l:=l) (I:=I) (fun i hi=>?_) hd1 l.length 0 st st2 G a w (by omega) hR (by simpa using hpre) fun a2 w2 G2 hR2 hb2=>?_
   ·have hi':i<ops'.size:=by omega
    refine⟨hi',?_⟩
    have:=m2 i (by simp;omega) hi
    simpa[List.getElem_dropLast]using this
   have hfv:=aU hR2 hf;obtain⟨la,va⟩:=oV hR2 hargs;cases hfn0:St.get st2.fr f with
   |fn g A Z=>?_
   |_=>rw[hfn0]at hdfr;simp[iB]at hdfr
   rw[hfn0]at hdfr hfv;obtain⟨hfr4,⟨gn,hgn,hgname,hgbody⟩,hdef⟩:=aRb hL hE hcall hio hdfr;generalize hgF:a2.eval F=uF at hfv;cases hfv with
   |fn _ _ _ p q hp hq hvp hvq=>
   let dd:Deferred:={target:= .fn (.func g) q,args:=p++kc'.args.map a2.eval};have hrun:(execOp a2.eval o).run P w2= .ok (.defer dd) w2:=by
    simp[execOp,hop,resolve,hcf,hgF,Deferred.ofValue,dd]
   have hinv: ∀W:World,(invoke (.fn (.func g) q) (p++kc'.args.map a2.eval)).run P W= .ok (.enter g (p++kc'.args.map a2.eval++q)) W:=by
    intro W;have hnm': ¬gn.name= "runtime.NumGoroutine" :=by simpa using hgname
    have hbody': ¬gn.body=none:=by intro h;rw[h]at hgbody;cases hgbody
    simp[invoke,callFunc,hgn,hnm',hbody']
   obtain⟨Ds,r1,r2,r3⟩:=hR2.marks;rw[ht,bPx]at r1;rw[wpOpsIn_cons];unfold wpOpIn;simp only[hlast];have hw:Region.wanted o (yielded ops' a2.tmps)=true:=by simp[Region.wanted,hgd]
   simp only[hw,if_true]
   refine⟨fun _ _=>trivial,?_⟩
   rw[show(Fx none).round=none from rfl,Oper.semAt_none,hrun,Oper.uponIn_defer,hdo]
   show Code.wpIn (Fx none) 0 P y (bodyPostM Fence.wide 0 P fn R) {a2 with defers:=dd::a2.defers} w2;let ΞB:Env:={prs:=fun u z=>Ξ.prs u z \/ ∃X x,aO X=some x/\ u=St.get st2.fr x/\ z=a2.eval X,ro:=Ξ.ro,rnd:=Ξ.rnd,defs:=fun D=>Ξ.defs D \/D∈Ds,tail:=dd::Ds.map xU,virt:=Ξ.virt}
   have hRB:Rel P ΞB B S G2 st2 fn.ntmps {a2 with defers:=dd::a2.defers} w2:=
    ⟨hR2.size,hR2.tmps,hR2.frame,⟨[],by simp[ΞB,r1],⟨List.nodup_nil,fun _=>rfl⟩,fun D hD=>by simp at hD⟩,hR2.ents,hR2.freshEn,hR2.freshG,hR2.own,fun u z hu=>by
     rcases hu with(hu|⟨X,x,h1,rfl,rfl⟩)|hu
     ·exact hR2.extra u z (.inl hu)
     ·exact aU hR2 h1
     ·exact hR2.extra u z (.inr hu),fun l hl=>hR2.round l hl,fun D hD=>hD.elim (hR2.defs D) fun h=>(r3 D h).2.2,hR2.virt⟩
   have hfx:Fx ΞB.ro=Fx none:=by show Fx Ξ.ro=Fx none;rw[hro]
   have hBw2:Below B w0 w2:=hB.trans hb2;rw[<-hfx]
   refine hE I fn.ntmps y st2 eb st3 ΞB B S G2 _ w2 _ 0 hd2 (fun h=>nomatch h) hRB hbx fun a3 w3 G3 x3 hx3 hR3 hb3=>?_
   obtain⟨tm,hR3',htm,htu⟩:=hR3;obtain⟨Ds3,s1,s2,s3,s4,_,hR4⟩:=hR3'.shut
   replace s1:a3.defers=Ds3.map xU++(dd::Ds.map xU):=s1
   have hres:results fn tm=results fn a3.tmps:=aOu fun t htt=>htu t (by
    cases hu:(st3.fr t).isUndef with
    |false=>rfl
    |true=>exact absurd (bRy.2 ⟨t,htt,hu⟩) (by simpa using hts))
   have hlv:LeavesInM Fence.wide 0 P fn a3.tmps R (Ds3.map xU++(dd::Ds.map xU)) (eb.mode x3) w3:=by
    refine nM Ex.mode_run Ds3 w3 s2 s3 ⟨Ex.mode_run,.inr ⟨fun h=>by simp[Fence.wide]at h,.func g,q,g,_,rfl,hinv _,fun _ _=>trivial,?_⟩⟩
    have hvals: ∀i,i<(A++args.map (St.get st2.fr)++Z).length->VR (aX B S G3 (lL w3 Ds3).heap.size) G3 (lL w3 Ds3) ((A++args.map (St.get st2.fr)++Z).getD i .dead) ((p++kc'.args.map a2.eval++q).getD i undef):=by
     have hfv4:=hR4.extra _ _ (.inl (.inr ⟨F,f,hf,rfl,rfl⟩));rw[hfn0,hgF]at hfv4;cases hfv4 with
     |fn _ _ _ _ _ hp4 hq4 hvp4 hvq4=>
     intro i hi;simp only[bO2,bPc,bRn,bRp,bPg,bRo,Array.size_map,bOz]at hi⊢;have e1:p.size=A.length:=hp;have e2:kc'.args.size=args.length:=by simp[la]
     rw[e1,e2];split
     ·split
      ·rename_i h;have:=hvp4 i h;simpa[bO2,bPc]using this
      ·have hi':i-A.length<args.length:=by omega
       have hi2:i-A.length<kc'.args.size:=by omega
       obtain⟨m3,m4⟩:=eR hargs;have hlo:=m4 (i-A.length) (by simpa using hi2) hi'
       have:=hR4.extra _ _ (.inl (.inr ⟨_,_,hlo,rfl,rfl⟩))
       simpa[bO2,bPc,hi',hi2]using this
     ·have:=hvq4 (i-(A.length+args.length)) (by omega);simpa[bO2,bPc]using this
    refine CallsDIn.mono (hdef ΞB B S G3 fn.ntmps _ (lL w3 Ds3) _ x3 (0-1) hx3 hR4 (by simp[hp,hq,la]) hvals) ?_
    rintro ed u' w5 ⟨G5,y5,rfl,hset,hR5,hb5⟩
    simp only[hset];have hR6:Rel P Ξ B S G5 st4 fn.ntmps {tmps:=tm,defers:=Ds.map xU} w5:=
     ⟨hR5.size,hR5.tmps,hR5.frame,⟨Ds,by simp[ht],r2,fun D hD=>⟨(r3 D hD).1,(r3 D hD).2.1,hR5.defs D (.inr hD)⟩⟩,hR5.ents,hR5.freshEn,hR5.freshG,hR5.own,fun u z hu=>hR5.extra u z (hu.imp_left .inl),fun l hl=>hR5.round l hl,fun D hD=>hR5.defs D (.inl hD),hR5.virt⟩
    obtain⟨Ds6,v1,v2,v3,v4,_,hR7⟩:=hR6.shut
    replace v1:Ds.map xU=Ds6.map xU++Ξ.tail:=v1
    have hfin:=k _ _ _ undef trivial ht hR7 ((((hBw2.trans hb3).trans (yG Ds3 w3 s4)).trans hb5).trans (yG Ds6 w5 v4));obtain⟨yy,hyy,hRy⟩:=hfin;rw[v1,ht]
    refine nM (by simp) Ds6 w5 v2 v3 ?_
    exact⟨yy,by rw[<-hres];exact hyy,hRy⟩
   rw[<-s1]at hlv;cases eb with
   |normal=>exact hlv
   |ret=>exact hlv
   |panic v=>exact hlv
   |exit id=>simp[iB,Ex.rcvd]at hdfr;split at hdfr<;>(try split at hdfr)<;>simp at hdfr
  ·split at hly
   case h_2=>cases hly
   rename_i ly' hly';simp only[bOw]at hly;subst hly;simp only[bB.dstOk,bOx]at hdst;rw[exec]at hx
   refine wpIn_seq ?_
   cases h1:exec L n (cG P I x) st with
   |none=>rw[h1]at hx;cases hx
   |some pr=>
    obtain⟨e1,s1⟩:=pr;rw[h1]at hx;have hfx:Fx Ξ.ro=Fx none:=by rw[hro]
    rw[<-hfx]
    refine hE I fn.ntmps x st e1 s1 Ξ B S G a w _ 0 hdst.1 (fun h=>by rw[hnm]at h;cases h) hR h1 fun a1 w1 G1 x1 hx1 hR1 hb1=>?_
    cases e1 with
    |normal=>
     rw[hfx];exact ih (fun m hm=>hall m (by omega)) y ly' s1 G1 a1 w1 hly' hdst.2 hx (hR1.rel rfl) (hB.trans hb1)
    |exit id=>simp only[bOw,bO1]at hx;obtain⟨rfl,rfl⟩:=hx;exact aBw (m:=0) ht hx1 hR1 (hB.trans hb1) k
    |ret=>simp only[bOw,bO1]at hx;obtain⟨rfl,rfl⟩:=hx;exact aBw (m:=0) ht hx1 hR1 (hB.trans hb1) k
    |panic v=>simp only[bOw,bO1]at hx;obtain⟨rfl,rfl⟩:=hx;exact aBw (m:=0) ht hx1 hR1 (hB.trans hb1) k
theorem bIb {L:bJ}(hL:pW P L)(hE:wD P L n)(hall: ∀m,m<n->wD P L m/\ lJ P (bM L 8 (exec L m))/\ wW P (eW L (exec L m))):aF6 P L n:=by
 intro f fn lf I keep amb e st0 st' Ξ B S G vals w R hfn hlow hx hro ht hnm hR0 k;obtain⟨c,hbody,hlb,hdst,hnp,hname,hres⟩:=wX hlow;have hfx:Fx Ξ.ro=Fx none:=by rw[hro]
 refine callsIn_wide.1 (callsIn_of_wp_marks (F:=Fence.wide) (n:=0) hfn hbody trivial ?_)
 simp only[aD6]at hlb
 split at hlb
 ·rename_i lc hrc;simp only[bOw]at hlb;subst hlb
  exfalso
  unfold aTw at hrc
  split at hrc
  case h_2=>cases hrc
  split at hrc
  case h_2=>cases hrc
  split at hrc
  case isFalse=>cases hrc
  obtain⟨l',_,he⟩:=bPa.1 hrc;rw[<-he]at hx;cases n<;>simp[exec]at hx
 ·split at hlb
  ·rename_i lc hlt;simp only[bOw]at hlb;subst hlb;exact bC3 hL hro ht hnm k n hall c _ st0 G _ w hlt hdst hx hR0 (Below.refl _ _)
  ·split at hlb
   ·cases hlb
   simp only[bOw]at hlb;rw[<-hlb]at hx hdst;have:=hE I fn.ntmps c st0 e st' Ξ B S G _ w (bodyPostM Fence.wide 0 P fn R) 0 hdst (fun h=>by rw[hnm]at h;cases h) hR0 hx fun a1 w1 G1 x hxv hR1 hb=>aBw ht hxv hR1 hb k
   rw[hfx]at this;exact this
theorem aGa {L:bJ}(hL:pW P L){k:Nat}(ih:aF6 P L n):lJ P (bM L k (exec L n)):=by
 intro f args r h;simp only[bM]at h
 split at h
 ·cases h
 rename_i lf hlf
 split at h
 case isFalse=>cases h
 rename_i hlen
 split at h
 ·rename_i ha;obtain⟨e1,c1⟩:=aQ7 hL ih hlf hlen ha h;exact⟨e1,fun S w vals hS hgl hvl hv=>c1 _ _ S w vals hS hgl hvl hv⟩
 ·exact aF7 hL ih hlf hlen h
theorem aXe (hm:P.follows .mixedOrders=true){L:bJ}(hL:pW P L): ∀n,wD P L n/\ aF6 P L n:=by
 intro n
 induction n using Nat.strongRecOn with
 |ind n ih=>
  have hE:wD P L n:=by
   match n,ih with
   |0,_=>intro I N c st e st' Ξ B S G a w Q m _ _ _ hx;simp[exec]at hx
   |n+1,ih=>exact aXd hm hL (aGa hL (ih n (by omega)).2) (ih n (by omega)).2 fun m hm'=>(ih m (by omega)).1
  exact⟨hE,bIb hL hE fun m hm'=>⟨(ih m hm').1,aGa hL (ih m hm').2,aZ2 hL (ih m hm').2 (ih m hm').1⟩⟩
theorem aRc (hm:P.follows .mixedOrders=true){L:bJ}(hL:pW P L)(n:Nat):lJ P (lC L n):=aGa hL (aXe hm hL n).2
end Go.Abs
namespace Go.Abs
variable [Inhabited lX]
@[reducible] def o (d:Nat)(op:LOp):aM:=⟨some d,op,none⟩
@[reducible] def og (d t:Nat)(b:Bool)(op:LOp):aM:=⟨some d,op,some (t,b)⟩
@[reducible] def on (op:LOp):aM:=⟨none,op,none⟩
@[reducible] def ong (t:Nat)(b:Bool)(op:LOp):aM:=⟨none,op,some (t,b)⟩
@[reducible] def cI (n:Int):Opd:= .c (.int .i64 n)
@[reducible] def cB (b:Bool):Opd:= .c (.bool b)
@[reducible] def mT (d x:Nat):aM:=⟨some d,.mv (.t x),none⟩
@[reducible] def mC (d:Nat)(v:Val):aM:=⟨some d,.mv (.c v),none⟩
@[reducible] def fA (d k x:Nat):aM:=⟨some d,.fa k (.t x),none⟩
@[reducible] def l1 (d x:Nat):aM:=⟨some d,.load false 1 (.t x),none⟩
@[reducible] def lT (d n x:Nat):aM:=⟨some d,.load true n (.t x),none⟩
@[reducible] def bN (d:Nat)(op:BinOp)(x y:Opd):aM:=⟨some d,.bin op .num x y,none⟩
@[reducible] def pO (d c x:Nat):aM:=⟨some d,.pick (.t c) (.c (.bool true)) (.t x),none⟩
@[reducible] def pA (d c x:Nat):aM:=⟨some d,.pick (.t c) (.t x) (.c (.bool false)),none⟩
@[reducible] def cL (d f:Nat)(args:List Opd):aM:=⟨some d,.call (.f f) args,none⟩
@[reducible] def lN (d x:Nat):aM:=⟨some d,.len .slice (.t x),none⟩
@[reducible] def bX (d n x:Nat):aM:=⟨some d,.box n (.t x),none⟩
@[reducible] def iA (d s x i:Nat):aM:=⟨some d,.ia s (.t x) (.t i),none⟩
@[reducible] def nK (d x:Nat):aM:=⟨some d,.nilck (.t x),none⟩
@[reducible] def nT (d x:Nat):aM:=⟨some d,.un .not (.t x),none⟩
@[reducible] def sT (n a x:Nat):aM:=⟨none,.store n (.t a) (.t x),none⟩
@[reducible] def gM (d t:Nat)(b:Bool)(x:Nat):aM:=⟨some d,.mv (.t x),some (t,b)⟩
@[reducible] def gF (d t:Nat)(b:Bool)(k x:Nat):aM:=⟨some d,.fa k (.t x),some (t,b)⟩
@[reducible] def g1 (d t:Nat)(b:Bool)(x:Nat):aM:=⟨some d,.load false 1 (.t x),some (t,b)⟩
@[reducible] def gT (d t:Nat)(b:Bool)(n x:Nat):aM:=⟨some d,.load true n (.t x),some (t,b)⟩
@[reducible] def gN (d t:Nat)(b:Bool)(x:Nat):aM:=⟨some d,.len .slice (.t x),some (t,b)⟩
@[reducible] def gB (d t:Nat)(b:Bool)(op:BinOp)(x y:Opd):aM:=⟨some d,.bin op .num x y,some (t,b)⟩
structure bOs where
 inl:List Nat:=[]
 pan:List Int:=[]
 dyn:Bool:=false
 keep:Bool:=false
 amb:Bool:=false
def aZ4 (P:Program)(cfg:Nat->(Operand->Bool)×Bool×Bool):bJ:=fun n=>match P.funcs[n]? with
 |some fn=>xT P (cfg n).1 (cfg n).2.1 (cfg n).2.2 fn
 |none=>none
theorem bC4 {P:Program}{cfg:Nat->(Operand->Bool)×Bool×Bool}{n:Nat}{fn:Func}(h:P.funcs[n]?=some fn):aZ4 P cfg n=xT P (cfg n).1 (cfg n).2.1 (cfg n).2.2 fn:=by simp only[aZ4,h]
theorem bC5 (P:Program)(cfg:Nat->(Operand->Bool)×Bool×Bool):pW P (aZ4 P cfg):=by
 intro f lf h;simp only[aZ4]at h
 split at h
 ·rename_i fn hf;exact⟨fn,(cfg f).1,(cfg f).2.1,(cfg f).2.2,hf,h⟩
 ·cases h
end Go.Abs
namespace Go.Abs
open Go.RowKit Go.WideShapes Go.ChangeShapes Go.ChangeAt
variable [Inhabited lX]
variable {H :Type}{enc:TypeId×Value->H}{P:Program}
theorem aEh (hl:laidOutB P=true){W W':World}(hb:Below W.heap.size W W'){sp:Nat->Bool}: ∀{ts:List TypeId} {vs:List Value} {ds:List (DataW H)} {ps:List MemPlace},(∀t∈ts,P.readableRec t=true/\ t<P.types.size)->
  DataW.TrodAll enc P W 0 (fun _=>true) true ts vs ds ps->(∀x∈ps,x.block<W.heap.size)->(∀x∈ps,sp x.block=true)->DataW.TrodAll enc P W' 0 sp true ts vs ds ps
 |[],[],[],ps,_,h,_,_=>h
 |t::ts,v::vs,d::ds,ps,hr,h,hlt,hsp=>by
  obtain⟨p,q,h1,h2,rfl⟩:=h
  refine⟨p,q,WideElems.Trod_stays hl (hr t (by simp)).1 (hr t (by simp)).2 h1 (fun x hx=>hb.same (hlt x (bQ9 _ hx))) (fun x hx=>hsp x (bQ9 _ hx)),
   aEh hl hb (fun t ht=>hr t (bQz _ ht)) h2 (fun x hx=>hlt x (bQ0 _ hx)) (fun x hx=>hsp x (bQ0 _ hx)),rfl⟩
 |[],_::_,_,_,_,h,_,_=>h.elim
 |[],[],_::_,_,_,h,_,_=>h.elim
 |_::_,[],_,_,_,h,_,_=>h.elim
 |_::_,_::_,[],_,_,h,_,_=>h.elim
theorem aRd {f:Func}{s:ChangeSpec}{apart fresh handsOn again:Bool}{W W':World}{args:Array Value}{ds gs:List (DataW H)}{before:List MemPlace}{bt:TypeId}
  (hW:DataW.Whole enc P f.params.toList s.vars apart W args.toList ds gs before) (hvars:s.vars=[]) (hres:f.resultTypes= #[bt]) (hbt:P.underlying bt=some .bool)
  (hfn:s.fn H (ds++gs)={results:=[.lit (.bool true)],args:=ds}) (hl:laidOutB P=true) (hr: ∀t∈f.params.toList,P.readableRec t=true/\ t<P.types.size) (hb:Below W.heap.size W W'):
  s.post enc P f apart fresh handsOn again W args (.bool true) W':=by
 have hlt: ∀x∈before,x.block<W.heap.size:=fun x hx=>hW.lt x hx
 obtain⟨p,q,hA,hV,hbq,hz,hn⟩:=hW;rw[hvars]at hV;obtain⟨rfl,rfl⟩:=trodVars_none hV;have hbp:before=p:=by simpa using hbq
 subst hbp;have harg: ∀sp:Nat->Bool,(∀x∈before,sp x.block=true)->DataW.TrodAll enc P W' 0 sp true f.params.toList args.toList ds before:=fun sp hsp=>aEh hl hb hr hA hlt hsp
 have hresult: ∀(b:Nat) (sp:Nat->Bool) (hd:Bool),DataW.TrodAll enc P W' b sp hd f.resultTypes.toList ((Value.bool true).resultList f.resultTypes.size) [.lit (.bool true)] []:=by
  intro b sp hd;rw[hres];exact trodAll_cons_mk (shut_bool hbt _) trodAll_mk0
 have hvar: ∀sp:Nat->Bool,DataW.TrodVars enc P W' sp s.vars (s.fn H (ds++[])).vars []:=by
  intro sp;rw[hvars,hfn];exact rfl
 refine⟨ds,[],before,[],before,[],⟨before,[],hA,by rw[hvars];exact hV,by simp,hz,hn⟩,by rw[hfn];exact hresult _ _ _,by rw[hfn];exact harg _ (fun x hx=>by simpa using hlt x hx),hvar _,
  World.keptBut_mono (fun x hx=>⟨hx,.inr (by simpa using hx)⟩) (hb.frame (· ∈before)),fun _=>?_⟩
 refine⟨ok_one hres rfl (okWide_bool_mk hbt _),_,_,([]++before)++[],⟨[]++before,[],trodAll_append (harg _ (fun _ _=>rfl)) (hresult _ _ _),hvar _,rfl,fun b off hx=>?_,fun ha=>by simpa using hn ha⟩,fun x hx _=>by simpa using hx⟩
 have hin:MemPlace.cell b off∈before:=by simpa using hx
 rw[hb.frozen (hlt _ hin)];exact hz b off hin
theorem aJt {L:bJ}(hm:P.follows .mixedOrders=true)(hL:pW P L){f n:Nat}{args:List Val}(h:lC L n f args=some (.bool true)){S:Nat->Nat->Prop}{w:World}{vals:Array Value}(hS: ∀b o,S b o->b<w.heap.size)(hg:tM S w)
  (hn:vals.size=args.length) (hv: ∀i,i<args.length->VR S Gh.none w (args.getD i .dead) (vals.getD i undef)):Calls P f vals w fun e w'=>e= .returned (.bool true)/\ Below w.heap.size w w':=by
 refine Calls.mono ((aRc hm hL n f args _ h).2 S w vals hS hg hn hv) ?_
 rintro e w' ⟨v,rfl,hb,hr⟩
 have hr':VR (aEe w S w') Gh.none w' (.bool true) v:=hr;cases hr';exact⟨rfl,hb⟩
end Go.Abs
namespace Go.Abs
def aOv (P:Program):Nat->List TypeId->List TypeId
 |0,s=>s
 |d+1,s=>if P.grow s==s then s else aOv P d (P.grow s)
theorem aM0 {P:Program}{s:List TypeId}(h:P.grow s=s): ∀d,P.grown d s=s
 |0=>rfl
 |d+1=>by rw[Program.grown,h];exact aM0 h d
theorem aM1 (P:Program): ∀(d:Nat) (s:List TypeId),P.grown d s=aOv P d s
 |0,s=>rfl
 |d+1,s=>by
  rw[aOv]
  by_cases h:(P.grow s==s)=true
  ·rw[if_pos h];exact aM0 (eq_of_beq h) _
  ·rw[if_neg h,Program.grown];exact aM1 P d _
theorem aZ5 (P:Program)(t:TypeId):P.book t=aOv P P.types.size [t]:=aM1 P _ _
def CLe (c c':bH):Prop:= ∀f a r,c f a=some r->c' f a=some r
def ILe (i j:Inl):Prop:=(∀f a s r,i.fn f a s=some r->j.fn f a s=some r)/\ ∀k a s r,i.yld k a s=some r->j.yld k a s=some r
def XLe (x y:bB->St->Option (Ex×St)):Prop:= ∀c s r,x c s=some r->y c s=some r
variable {c':bH}{d g me:Nat}{en:En}{get:Opd->Val}{op:LOp}
theorem aXf {n:Nat}{c:bH}(h:CLe c c'){r:Res}(he:eval n c me d g en get op=some r):eval n c' me d g en get op=some r:=by
 by_cases hc: ∃f args,op= .call f args
 ·obtain⟨f,args,rfl⟩:=hc;simp only[eval]at he⊢
  split at he
  case h_2=>cases he
  split at he
  case h_2=>cases he
  split at he
  case h_2=>cases he
  rename_i hv;rw[h _ _ _ hv];exact he
 ·cases op<;>first|exact absurd ⟨_,_,rfl⟩ hc|exact he
variable {a:List Val}
theorem aOw {i j:Inl}(h:ILe i j){f:Val}{s:St}{r:Val×St}(he:i.call f a s=some r):j.call f a s=some r:=by
 cases f<;>simp only[Inl.call,reduceCtorEq]at he⊢
 ·exact h.1 _ _ _ _ he
 ·exact h.2 _ _ _ _ he
variable {st:St}
theorem aBx {n:Nat}{c:bH}{i j:Inl}(hc:CLe c c')(hi:ILe i j){o:aM}{r:St×Res}(h:step n c i 0 st o=some r):step n c' j 0 st o=some r:=by
 obtain⟨dst,op,g⟩:=o;simp only[step]at h⊢
 split at h
 ·exact h
 ·cases op with
  |icall f args=>
   simp only at h⊢
   split at h
   case h_2=>cases h
   rename_i hv;rw[aOw hi hv];exact h
  |_=>
   simp only at h⊢
   split at h
   case h_2=>cases h
   rename_i hv;rw[aXf hc hv];exact h
 ·cases h
theorem vM {n:Nat}{c c':bH}{i j:Inl}(hc:CLe c c')(hi:ILe i j): ∀(l:List aM) {st r:St},gJ n c i 0 l st=some r->gJ n c' j 0 l st=some r
 |[],_,_,h=>h
 |o::l,st,r,h=>by
  simp only[gJ]at h⊢
  split at h
  case h_2=>cases h
  rename_i hs;rw[aBx hc hi hs];exact vM hc hi l h
theorem pJ {n:Nat}{c c':bH}{i j:Inl}(hc:CLe c c')(hi:ILe i j): ∀(l:List aM) {st:St} {r:St×List Res},iV n c i 0 l st=some r->iV n c' j 0 l st=some r
 |[],_,_,h=>h
 |o::l,st,r,h=>by
  simp only[iV]at h⊢
  split at h
  case h_2=>cases h
  rename_i hs;rw[aBx hc hi hs]
  split at h
  case h_2=>cases h
  rename_i hr;simp only[pJ hc hi l hr];exact h
variable {lf:jB}{r:Val}{x y:bB->St->Option (Ex×St)}
theorem wZ (h:XLe x y){n:Nat}(hb:iT lf n x a=some r):iT lf n y a=some r:=by
 simp only[iT]at hb⊢
 split at hb
 case h_2=>cases hb
 rename_i hx;rw[h _ _ _ hx];exact hb
theorem aM2 {a b a' b':Option Val}(ha: ∀r,a=some r->a'=some r)(hb: ∀r,b=some r->b'=some r)(h:jP a b=some r):jP a' b'=some r:=by
 unfold jP at h
 split at h<;>first|(cases h;done)|(rw[ha _ rfl,hb _ rfl];exact h)
theorem xA {L:bJ}(h:XLe x y){n:Nat}:CLe (bM L n x) (bM L n y):=by
 intro f a r hc;simp only[bM]at hc⊢
 split at hc
 ·cases hc
 split at hc
 case isFalse=>cases hc
 rename_i hl;rw[if_pos hl]
 split at hc
 ·rename_i ha;rw[if_pos ha];exact aM2 (fun _=>wZ h) (fun _=>wZ h) hc
 ·rename_i ha;rw[if_neg ha];exact wZ h hc
variable {f:Nat}
theorem aXg {L:bJ}(h:XLe x y){s:St}{r:Val×St}(hc:kP L x f a s=some r):kP L y f a s=some r:=by
 simp only[kP]at hc⊢
 split at hc
 ·cases hc
 split at hc
 case isFalse=>cases hc
 rename_i hl;rw[if_pos hl]
 split at hc
 ·rename_i ha;rw[if_pos ha];obtain⟨v,hv,rfl⟩:=bPa.1 hc;rw[aM2 (fun _=>wZ h) (fun _=>wZ h) hv];rfl
 ·rename_i ha;rw[if_neg ha]
  split at hc
  case h_2=>cases hc
  rename_i hx;rw[h _ _ _ hx];exact hc
theorem xB {L:bJ}(h:XLe x y):ILe (eW L x) (eW L y):=by
 refine⟨fun f a s r hc=>?_,fun k a s r hc=>?_⟩
 ·simp only[eW,zU]at hc⊢
  split at hc
  case h_2=>cases hc
  rename_i hx;rw[aXg h hx];exact hc
 ·simp only[eW,aD0]at hc⊢
  split at hc
  case h_2=>cases hc
  split at hc
  case isFalse=>cases hc
  rename_i hl;rw[if_pos hl]
  split at hc
  case h_2=>cases hc
  rename_i hx;rw[h _ _ _ hx]
  split at hc
  case h_2=>cases hc
  rename_i hk;simp only[hk]
  split at hc
  case h_2=>cases hc
  rename_i hx2;simp only[h _ _ _ hx2];exact hc
theorem aRe {L:bJ}(h:XLe x y):CLe (cR L x) (cR L y):=by
 intro f a r hc;simp only[cR]at hc⊢
 split at hc
 ·cases hc
 split at hc
 case isFalse=>cases hc
 rename_i hl;rw[if_pos hl]
 split at hc
 case h_2=>cases hc
 rename_i hx;simp only[h _ _ _ hx];exact hc
theorem aRf {L:bJ}(h:XLe x y){s:St}{r:Val×St}(hc:eD L x f a s=some r):eD L y f a s=some r:=by
 simp only[eD]at hc⊢
 split at hc
 ·cases hc
 split at hc
 case isFalse=>cases hc
 rename_i hl;rw[if_pos hl]
 split at hc
 case h_2=>cases hc
 rename_i hx;simp only[h _ _ _ hx];exact hc
variable {v:Val}
theorem aZ6 {L:bJ}{n:Nat}(h:cR L x f a=some v):bM L n x f a=none:=by
 simp only[cR]at h
 split at h
 ·cases h
 rename_i lf hlf
 split at h
 case isFalse=>cases h
 rename_i hl
 split at h
 case h_2=>cases h
 rename_i hx;simp only[bM,hlf,hl.1,hl.2,if_true,bO0,if_false,iT,hx,Ex.ends]
theorem aV2 {L:bJ}{s:St}{r:Val×St}(h:eD L x f a s=some r):kP L x f a s=none:=by
 simp only[eD]at h
 split at h
 ·cases h
 rename_i lf hlf
 split at h
 case isFalse=>cases h
 rename_i hl
 split at h
 case h_2=>cases h
 rename_i hx;simp only[kP,hlf,hl.1,hl.2,if_true,bO0,if_false,hx,Ex.ends]
theorem aZ7 {L:bJ}{s:St}{r:Val×St}(h:eD L x f a s=some r):zU L x f a s=none:=by
 simp only[zU,aV2 h]
theorem aAd {L:bJ}{n k:Nat}{o:aM}{r:Val×St}(h:dT n (cR L x) (eD L x) st o=some r):step n (bM L k x) (eW L x) 0 st o=none:=by
 obtain⟨dst,op,g⟩:=o;simp only[dT]at h
 split at h
 case h_2=>cases h
 rename_i hw;simp only[step,hw];cases op with
 |panic y=>simp[eval]
 |call f args=>
  simp only at h⊢
  split at h
  case h_2=>cases h
  rename_i hf
  split at h
  case h_2=>cases h
  rename_i hs;obtain⟨v,hv,rfl⟩:=bPa.1 h;simp only[eval,hf,hs,aZ6 hv]
 |icall f args=>
  simp only at h⊢
  split at h
  case h_2=>cases h
  rename_i hf
  split at h
  case h_2=>cases h
  rename_i hv;simp only[hf,Inl.call,eW,zU,aV2 hv]
 |_=>simp at h
variable {p:bH}
theorem sN {L:bJ}(hx:XLe x y)(hp:CLe p (cR L y)){n:Nat}{o:aM}{r:Val×St}(h:dT n p (eD L x) st o=some r):dT n (cR L y) (eD L y) st o=some r:=by
 obtain⟨dst,op,g⟩:=o;simp only[dT]at h⊢
 split at h
 case h_2=>cases h
 rename_i hw;cases op with
 |call f args=>
  simp only at h⊢
  split at h
  case h_2=>cases h
  split at h
  case h_2=>cases h
  obtain⟨v,hv,rfl⟩:=bPa.1 h;simp only[hp _ _ _ hv,bPq]
 |icall f args=>
  simp only at h⊢
  split at h
  case h_2=>cases h
  split at h
  case h_2=>cases h
  rename_i hv;rw[aRf hx hv];exact h
 |_=>exact h
theorem aM3 {L:bJ}{x y:bB->St->Option (Ex×St)}{c p:bH}{k:Nat}(hx:XLe x y)(hc:CLe c (bM L k y))(hp:CLe p (cR L y)){n:Nat}: ∀(l:List aM) {st:St} {r:Ex×St},
  aD1 n c (eW L x) p (eD L x) l st=some r->aD1 n (bM L k y) (eW L y) (cR L y) (eD L y) l st=some r
 |[],_,_,h=>h
 |o::l,st,r,h=>by
  simp only[aD1]at h⊢
  split at h
  ·rename_i hq;simp only[sN hx hp hq];exact h
  ·split at h
   case h_2=>cases h
   rename_i hs;have hs':=aBx hc (xB hx (L:=L)) hs;have hn:dT n (cR L y) (eD L y) st o=none:=by
    cases hq:dT n (cR L y) (eD L y) st o with
    |none=>rfl
    |some q=>rw[aAd hq]at hs';cases hs'
   simp only[hn,hs'];exact aM3 hx hc hp l h
variable {args:List Val}
theorem aUm {L:bJ}(hx:XLe x y){f:Val}{e:Ex}{st':St}(h:iB L x f args e st=some st'):iB L y f args e st=some st':=by
 unfold iB at h⊢
 split at h
 case h_2=>cases h
 split at h
 case h_2=>cases h
 split at h
 case h_2=>cases h
 split at h
 case isFalse=>cases h
 rename_i hc
 split at h
 case h_2=>cases h
 rename_i ho
 split at h
 case h_2=>cases h
 rename_i hb;simp only[if_pos hc,vM (xA hx (L:=L) (n:=8)) (xB hx (L:=L)) _ ho,hx _ _ _ hb];exact h
theorem aC8 {L:bJ}{x y:bB->St->Option (Ex×St)}{c p:bH}{k:Nat}(hx:XLe x y)(hc:CLe c (bM L k y))(hp:CLe p (cR L y)){n:Nat}: ∀(l:List aM) {i j:Nat} {st:St},
  pR n c (eW L x) p (eD L x) l i st=some j->pR n (bM L k y) (eW L y) (cR L y) (eD L y) l i st=some j
 |[],_,_,_,h=>h
 |o::l,i,j,st,h=>by
  simp only[pR]at h⊢
  split at h
  ·rename_i hq;simp only[sN hx hp hq];exact h
  ·split at h
   case h_2=>cases h
   rename_i hs;have hs':=aBx hc (xB hx (L:=L)) hs;have hn:dT n (cR L y) (eD L y) st o=none:=by
    cases hq:dT n (cR L y) (eD L y) st o with
    |none=>rfl
    |some q=>rw[aAd hq]at hs';cases hs'
   simp only[hn,hs'];exact aC8 hx hc hp l h
theorem tW {L:bJ}{x:bB->St->Option (Ex×St)}{n k:Nat}: ∀(l:List aM) {i:Nat} {st:St} {r:St×List Res},
  iV n (bM L k x) (eW L x) 0 l st=some r->pR n (bM L k x) (eW L x) (cR L x) (eD L x) l i st=none
 |[],_,_,_,_=>rfl
 |o::l,i,st,r,h=>by
  simp only[iV]at h
  split at h
  case h_2=>cases h
  rename_i hs
  split at h
  case h_2=>cases h
  rename_i hr;have hn:dT n (cR L x) (eD L x) st o=none:=by
   cases hq:dT n (cR L x) (eD L x) st o with
   |none=>rfl
   |some q=>rw[aAd hq]at hs;cases hs
  simp only[pR,hn,hs];exact tW l hr
variable {j:Nat}{l:List aM}
theorem aOx {L:bJ}{c:bH}{k:Nat}(hx:XLe x y)(hc:CLe c (bM L k y))(hp:CLe p (cR L y)){n:Nat}{an:List (List Nat)}{ps:List (Nat×Nat)}{r:Ex×St}
  (h:vF n c (eW L x) p (eD L x) l an ps j st=some r):vF n (bM L k y) (eW L y) (cR L y) (eD L y) l an ps j st=some r:=by
 simp only[vF]at h⊢
 split at h
 case h_2=>cases h
 rename_i hr;rw[pJ hc (xB hx (L:=L)) _ hr]
 simp only
 split at h
 case isFalse=>cases h
 rename_i hk;rw[if_pos hk]
 split at h
 case h_2=>cases h
 rename_i hq;simp only[sN hx hp hq];exact h
variable {ps:List Nat}
theorem aUn {L:bJ}(h:XLe x y){g:Val}{a b:bB}{r:Ex×St}(hr:nG L x g ps a b st=some r):nG L y g ps a b st=some r:=by
 unfold nG at hr⊢
 split at hr
 case h_2=>cases hr
 simp only at hr⊢
 split at hr
 ·rename_i hx;have:=(xB h (L:=L)).1 _ _ _ _ hx;simp only[eW]at this;rw[this];exact hr
 ·split at hr
  case h_2=>cases hr
  rename_i hx;have:=aRf h (L:=L) hx;simp only[aZ7 this,this];exact hr
def sJ (L:bJ)(x:bB->St->Option (Ex×St))(ca p:bH)(c:bB)(st:St):Option (Ex×St):=
 let i:=eW L x
 match c with
 | .skip=>some (.normal,st)
 | .ops l=>(gJ 8 ca i 0 l st).map fun st=>(.normal,st)
 | .draw l ps=>match iV 8 ca i 0 l st with
  |some (st',rs)=>if dS rs ps then some (.normal,st')else none
  |none=>none
 | .seq a b=>match x a st with
  |some (.normal,st')=>x b st'
  |r=>r
 | .cond z a b=>match St.get st.fr z with
  | .bool true=>x a st
  | .bool false=>x b st
  |_=>none
 | .block id b=>match x b st with
  |some (.exit id',st')=>if id'=id then some (.normal,st')else some (.exit id',st')
  |r=>r
 | .loop b=>match x b st with
  |some (.normal,st')=>x (.loop b) st'
  |r=>r
 | .exit id=>some (.exit id,st)
 | .ret=>some (.ret,st)
 | .rangeF g ps a b=>nG L x (St.get st.fr g) ps a b st
 | .opsP l=>aD1 8 ca i p (eD L x) l st
 | .dfr ts l f args b=>match gJ 8 ca i 0 l st with
  |some st2=>match x b st2 with
   |some (e,st3)=>if ts.any (fun t=>(st3.fr t).isUndef)then none else(iB L x (St.get st2.fr f) (args.map (St.get st2.fr)) e st3).map fun st4=>(.ret,st4)
   |none=>none
  |none=>none
 | .rcv _ _ _=>none
 | .drawP l an ps=>match pR 8 ca i p (eD L x) l 0 st with
  |some j=>vF 8 ca i p (eD L x) l an ps j st
  |none=>match iV 8 ca i 0 l st with
   |some (st',rs)=>if dS rs ps then some (.normal,st')else none
   |none=>none
 | .drawL l an ps A=>wS 8 ca i p (eD L x) (iY A (iH st (l.getD A default)) l) an ps A (iH st (l.getD A default)) (vG (iH st (l.getD A default)) (aMo (l.getD A default).op) st)
theorem aGb (L:bJ)(n:Nat):exec L (n+1)=sJ L (exec L n) (bM L 8 (exec L n)) (cR L (exec L n)):=by
 funext c st
 cases c<;>rfl
theorem aV3 {L:bJ}{ca:bH}(ih:XLe x y)(hc:CLe ca (bM L 8 y))(hp:CLe p (cR L y)):XLe (sJ L x ca p) (sJ L y (bM L 8 y) (cR L y)):=by
 intro c s r h;have hi:=xB ih (L:=L);cases c with
 |skip=>exact h
 |ops l=>
  simp only[sJ]at h⊢;obtain⟨st,hs,rfl⟩:=bPa.1 h;rw[vM hc hi l hs];rfl
 |draw l ps=>
  simp only[sJ]at h⊢
  split at h
  case h_2=>cases h
  rename_i hs;rw[pJ hc hi l hs];exact h
 |seq a b=>
  simp only[sJ]at h⊢;cases hx:x a s with
  |none=>rw[hx]at h;cases h
  |some p=>
   obtain⟨e,st⟩:=p;rw[hx]at h;rw[ih _ _ _ hx];cases e with
   |normal=>exact ih _ _ _ h
   |exit i=>exact h
   |ret=>exact h
   |panic v=>exact h
 |cond z a b=>
  simp only[sJ]at h⊢
  split at h
  ·exact ih _ _ _ h
  ·exact ih _ _ _ h
  ·cases h
 |block id b=>
  simp only[sJ]at h⊢;cases hx:x b s with
  |none=>rw[hx]at h;cases h
  |some p=>
   obtain⟨e,st⟩:=p;rw[hx]at h;rw[ih _ _ _ hx];exact h
 |loop b=>
  simp only[sJ]at h⊢;cases hx:x b s with
  |none=>rw[hx]at h;cases h
  |some p=>
   obtain⟨e,st⟩:=p;rw[hx]at h;rw[ih _ _ _ hx];cases e with
   |normal=>exact ih _ _ _ h
   |exit i=>exact h
   |ret=>exact h
   |panic v=>exact h
 |exit i=>exact h
 |ret=>exact h
 |rangeF g ps a b=>
  simp only[sJ]at h⊢;exact aUn ih h
 |opsP l=>
  simp only[sJ]at h⊢;exact aM3 ih hc hp l h
 |rcv d l b=>simp[sJ]at h
 |drawP l an ps=>
  simp only[sJ]at h⊢
  split at h
  ·rename_i hf;simp only[aC8 ih hc hp l hf];exact aOx ih hc hp h
  ·split at h
   case h_2=>cases h
   rename_i hr;have hr':=pJ hc hi l hr;simp only[tW (x:=y) l hr',hr'];exact h
 |drawL l an ps A=>
  simp only[sJ]at h⊢;unfold wS at h⊢
  split at h
  ·rename_i hf;simp only[aC8 ih hc hp _ hf]
   split at h
   case h_2=>cases h
   rename_i hr;rw[pJ hc hi _ hr]
   simp only
   split at h
   case isFalse=>cases h
   rename_i hck;rw[if_pos hck]
   split at h
   case h_2=>cases h
   rename_i hq;simp only[sN ih hp hq];exact h
  ·split at h
   case h_2=>cases h
   rename_i hr;have hr':=pJ hc hi _ hr;simp only[tW (x:=y) _ hr',hr'];exact h
 |dfr ts l f args b=>
  simp only[sJ]at h⊢
  split at h
  case h_2=>cases h
  rename_i hr;simp only[vM hc hi l hr]
  split at h
  case h_2=>cases h
  rename_i hb;simp only[ih _ _ _ hb]
  split at h
  ·cases h
  rename_i hts;rw[if_neg hts];obtain⟨q,hq,rfl⟩:=bPa.1 h;rw[aUm ih hq];rfl
theorem aXh (L:bJ): ∀n,XLe (exec L n) (exec L (n+1)):=by
 intro n
 induction n with
 |zero=>intro c s r h;simp[exec]at h
 |succ n ih=>rw[aGb,aGb];exact aV3 ih (xA ih) (aRe ih)
variable {m:Nat}
theorem bC6 (L:bJ){n:Nat}(h:n<=m):XLe (exec L n) (exec L m):=by
 induction h with
 |refl=>intro c s r h;exact h
 |step _ ih=>intro c s r h;exact aXh L _ _ _ _ (ih _ _ _ h)
theorem aAe {L:bJ}{n:Nat}(h:n<=m)(hr:lC L n f a=some r):lC L m f a=some r:=xA (bC6 L h) _ _ _ hr
def PC (L:bJ)(f:Nat)(args:List Val)(r:Val):Prop:= ∃n0,∀n,n0<=n->lC L n f args=some r
def Ev (L:bJ)(c:bB)(st:St)(e:Ex)(st':St):Prop:= ∃n0,∀n,n0<=n->exec L n c st=some (e,st')
def WIn (L:bJ)(f:Val)(args:List Val)(en:En)(cnt:Nat->Nat->Nat)(Q:Val->En->(Nat->Nat->Nat)->Prop):Prop:=
 ∃v en' cnt',(∃n0,∀n,n0<=n-> ∀fr,(eW L (exec L n)).call f args ⟨fr,en,cnt⟩=some (v,⟨fr,en',cnt'⟩))/\ Q v en' cnt'
variable {Q:Val->En->(Nat->Nat->Nat)->Prop}{cnt:Nat->Nat->Nat}
theorem WIn.mono {L:bJ}{f:Val}{R:Val->En->(Nat->Nat->Nat)->Prop}
  (h:WIn L f args en cnt Q) (k: ∀v en' cnt',Q v en' cnt'->R v en' cnt'):WIn L f args en cnt R:=by
 obtain⟨v,en',cnt',h1,h2⟩:=h;exact⟨v,en',cnt',h1,k _ _ _ h2⟩
theorem PC.det {L:bJ}{s:Val}(h:PC L f args r)(k:PC L f args s):s=r:=by
 obtain⟨n,h⟩:=h;obtain⟨m,k⟩:=k;have h1:=h (max n m) (by omega);have h2:=k (max n m) (by omega)
 rw[h1]at h2;cases h2;rfl
theorem PC.is {L:bJ}{s:Val}(h:PC L f args r):PC L f args s↔s=r:=
 ⟨fun k=>h.det k,fun e=>e▸h⟩
def bGd :bH:=fun _ _=>none
def snapD :Nat->En->Val->Option (Val×List Key)
 |0,_,_=>none
 |n+1,en,v=>
  match v with
  | .ptr k off=>match en k with
   |some (.box cs _)=>match cU (snapD n en) cs with
    |some rs=>some (.fp (rs.map (·.1)) off,k::rs.flatMap (·.2))
    |none=>none
   |_=>none
  | .ep k i off=>match en k with
   |some (.blk _ xs _)=>if k.deep then none else match xs[i]? with
    |some x=>some (.fp x.cells off,[k])
    |none=>none
   |_=>none
  | .bl k off len=>match en k with
   |some (.blk _ xs _)=>if k.deep then none else if off+len<=xs.length then some (.fz ((xs.drop off).take len),[k])else none
   |_=>none
  | .mp k=>match en k with
   |some (.map ks vs _)=>some (.fm ks vs,[k])
   |_=>none
  | .yld _| .it _=>none
  | .fn f a b=>match cU (snapD n en) a with
   |some x=>match cU (snapD n en) b with
    |some y=>some (.fn f (x.map (·.1)) (y.map (·.1)),x.flatMap (·.2)++y.flatMap (·.2))
    |none=>none
   |none=>none
  | .ifc t v=>match snapD n en v with
   |some r=>some (.ifc t r.1,r.2)
   |none=>none
  | .agg cs=>match cU (snapD n en) cs with
   |some rs=>some (.agg (rs.map (·.1)),rs.flatMap (·.2))
   |none=>none
  | .tup vs=>match cU (snapD n en) vs with
   |some rs=>some (.tup (rs.map (·.1)),rs.flatMap (·.2))
   |none=>none
  |v=>some (v,[])
variable {α:Type}
theorem aAf {β:Type}{f g:α->Option β}(h: ∀x y,f x=some y->g x=some y): ∀{l:List α} {r:List β},cU f l=some r->cU g l=some r:=by
 intro l
 induction l with
 |nil=>intro r h';exact h'
 |cons x xs ih=>
  intro r h';simp only[cU]at h'⊢
  split at h'
  ·rename_i y hy
   split at h'
   ·rename_i ys hys;rw[h x y hy,ih hys];exact h'
   ·cases h'
  ·cases h'
theorem tX (en:En): ∀(n:Nat) (v:Val) (r:Val×List Key),snapD n en v=some r-> ∀m,n<=m->snap m en v=some r:=by
 intro n
 induction n with
 |zero=>intro v r h;simp[snapD]at h
 |succ n ih=>
  intro v r h m hm;obtain⟨m,rfl⟩: ∃k,m=k+1:=⟨m-1,by omega⟩
  have hl: ∀{l:List Val} {rs:List (Val×List Key)},cU (snapD n en) l=some rs->cU (snap m en) l=some rs:=
   fun h=>aAf (fun x y hx=>ih x y hx m (by omega)) h
  cases v with
  |ptr k off=>
   simp only[snapD]at h;simp only[snap]
   split at h
   ·rename_i hk
    split at h
    ·rename_i hrs;simp only[bOw]at h;subst h;simp only[hk,hl hrs,Option.map]
    ·cases h
   ·cases h
  |bl k off len=>
   simp only[snapD]at h;simp only[snap]
   split at h
   case h_2=>cases h
   rename_i hk
   split at h
   ·cases h
   rename_i hd
   split at h
   case isFalse=>cases h
   rename_i hl;simp only[hk,if_neg hd,if_pos hl];exact h
  |fn f a b=>
   simp only[snapD]at h;simp only[snap]
   split at h
   ·rename_i hx
    split at h
    ·rename_i hy;simp only[bOw]at h;subst h;simp only[hl hx,hl hy,Option.map]
    ·cases h
   ·cases h
  |ifc t v=>
   simp only[snapD]at h;simp only[snap]
   split at h
   ·rename_i hx;simp only[bOw]at h;subst h;simp only[ih _ _ hx m (by omega),Option.map]
   ·cases h
  |agg cs=>
   simp only[snapD]at h;simp only[snap]
   split at h
   ·rename_i hx;simp only[bOw]at h;subst h;simp only[hl hx,Option.map]
   ·cases h
  |tup vs=>
   simp only[snapD]at h;simp only[snap]
   split at h
   ·rename_i hx;simp only[bOw]at h;subst h;simp only[hl hx,Option.map]
   ·cases h
  |_=>exact h
def dE (d g:Nat)(en:En)(get:Opd->Val):LOp->Option Res
 | .bslice len size z parts=>
  if len*size<=16777216 then
   match cU (fun p=>match snapD 8 en (get p.2)with|some r=>some ((p.1,r.1.wk1),r.2)|none=>none) parts with
   |some ps=>match dZ (List.replicate len (jM size z false)) size (ps.map (·.1))with
    |some xs=>some {v:= .cl xs,ws:=(ps.flatMap (·.2)).map .frz,rs:=(ps.flatMap (·.2)).map .val}
    |none=>none
   |none=>none
  else none
 | .store m a x=>
  let v:=get x
  if v.one=true/\ v.cells.length=m then
   match get a with
   | .ptr k off=>match en k with
    |some (.box cs false)=>if off+m<=cs.length then some {v:= .tup [],ws:=[.cells k off v.cells],rs:=[.flag k]}else none
    |_=>none
   | .ep k i off=>match en k with
    |some (.blk _ xs false)=>match xs[i]? with
     |some y=>if off+m<=y.cells.length then
       if k.deep then none else
       match snapD 8 en v with
       |some (v',ks)=>if v'.one=true/\ v'.cells.length=m/\ ks.all (fun k'=>decide (k'≠k))=true then some {v:= .tup [],ws:=ks.map .frz++[.elem k i off v'.wk1.cells],rs:= .val k:: .flag k::ks.map .val}else none
       |none=>none
      else none
     |none=>none
    |_=>none
   |_=>none
  else none
 | .call _ _| .icall _ _| .appendD .. | .bsliceK .. =>none
 |op=>eval 8 bGd 0 d g en get op
theorem aZ8 {r:Res}(h:dE d g en get op=some r)(call:bH)(n:Nat)(hn:8<=n):
  eval n call 0 d g en get op=some r:=by
 cases op with
 |bslice len size z parts=>
  simp only[dE]at h;simp only[eval]
  split at h
  ·rename_i hc;rw[if_pos hc]
   split at h
   ·rename_i ps hps;have:cU (fun p=>(snap n en (get p.2)).map fun r=>((p.1,r.1.wk1),r.2)) parts=some ps:=by
     refine aAf (fun x y hx=>?_) hps
     split at hx
     ·rename_i r hr;simp only[bOw]at hx;subst hx;rw[tX en 8 _ _ hr n hn];rfl
     ·cases hx
    rw[this];exact h
   ·cases h
  ·cases h
 |store m a x=>
  simp only[dE]at h;simp only[eval]
  split at h
  ·rename_i hc;rw[if_pos hc]
   split at h
   ·rename_i hg;simp only[hg];exact h
   ·rename_i hg;simp only[hg]
    split at h
    ·rename_i he;simp only[he]
     split at h
     ·rename_i hy;simp only[hy]
      split at h
      ·rename_i hl;rw[if_pos hl]
       split at h
       ·cases h
       rename_i hd;rw[if_neg hd]
       split at h
       ·rename_i hs;simp only[tX en 8 _ _ hs n hn];exact h
       ·cases h
      ·cases h
     ·cases h
    ·cases h
   ·cases h
  ·cases h
 |call f a=>simp[dE]at h
 |icall f a=>simp[dE]at h
 |appendD=>simp[dE]at h
 |bsliceK=>simp[dE]at h
 |_=>exact h
def WOp (L:bJ)(d g:Nat)(en:En)(get:Opd->Val)(op:LOp)(K:Res->Prop):Prop:=
 match op with
 | .call f args=>match get f with
  | .fn f a b=>match cU (snapD 8 en) (a++args.map get++b)with
   |some rs=> ∃r,PC L f (rs.map (·.1.wk1)) r/\ K (gS 0 d g r (rs.flatMap (·.2)))
   |none=>False
  |_=>False
 |op=>match dE d g en get op with
  |some r=>K r
  |none=>False
theorem bGe {L:bJ}{K:Res->Prop}(h:WOp L d g en get op K):
  op.me 0=0/\ ∃r,(∃n0,∀n,n0<=n->eval 8 (lC L n) 0 d g en get op=some r)/\ K r:=by
 have oth:(match dE d g en get op with|some r=>K r|none=>False)->op.me 0=0/\ ∃r,(∃n0,∀n,n0<=n->eval 8 (lC L n) 0 d g en get op=some r)/\ K r:=by
  intro h
  refine⟨by cases op<;>first|rfl|simp[dE]at h,?_⟩
  split at h
  ·rename_i r hr;exact⟨r,⟨0,fun n _=>aZ8 hr _ 8 (bOy _)⟩,h⟩
  ·exact h.elim
 cases op with
 |call f args=>
  simp only[WOp]at h
  split at h
  ·rename_i f' a b hf
   split at h
   ·rename_i rs hrs;obtain⟨r,⟨n1,h1⟩,hk⟩:=h
    refine⟨rfl,_,⟨n1,fun n hn=>?_⟩,hk⟩
    have:cU (fun x=>snap 8 en x) (a++args.map get++b)=some rs:=aAf (fun x y hx=>tX en 8 x y hx 8 (bOy _)) hrs
    simp only[eval,hf,this,h1 n (by omega)]
   ·exact h.elim
  ·exact h.elim
 |_=>exact oth h
def oF (L:bJ)(st:St)(o:aM)(K:St->Res->Prop):Prop:=
 match wanted st.fr o.guard with
 |some true=>match o.op with
  | .icall f args=>WIn L (St.get st.fr f) (args.map (St.get st.fr)) st.en st.cnt fun v en' cnt'=>K ⟨hZ st.fr o.dst v,en',cnt'⟩ {v,mem:=some (en',cnt'),unch:=fun k=>aQf (st.en k) (en' k)}
  |op=>WOp L (o.dst.getD 0) (st.cnt 0 (o.dst.getD 0)) st.en (St.get st.fr) op fun r=>(r.bump&&o.dst.isNone)=false/\
    K ⟨hZ st.fr o.dst r.v,W.applyAll st.en r.ws,if r.bump then aC st.cnt 0 (o.dst.getD 0) (st.cnt 0 (o.dst.getD 0)+1)else st.cnt⟩ r
 |some false=>K ⟨hZ st.fr o.dst (.tup []),st.en,st.cnt⟩ {v:= .tup []}
 |none=>False
def iW (L:bJ):List aM->St->(St->Prop)->Prop
 |[],st,Q=>Q st
 |o::l,st,Q=>oF L st o fun st' _=>iW L l st' Q
def qY (L:bJ):List aM->St->(St->List Res->Prop)->Prop
 |[],st,Q=>Q st []
 |o::l,st,Q=>oF L st o fun st' r=>qY L l st' fun st'' rs=>Q st'' (r::rs)
def PX (L:bJ)(f:Nat)(args:List Val)(v:Val):Prop:= ∃n0,∀n,n0<=n->bFs L n f args=some v
def wF (L:bJ)(f:Nat)(args:List Val)(en:En)(cnt:Nat->Nat->Nat)(Q:Val->En->(Nat->Nat->Nat)->Prop):Prop:=
 ∃v en' cnt',(∃n0,∀n,n0<=n-> ∀fr,eD L (exec L n) f args ⟨fr,en,cnt⟩=some (v,⟨fr,en',cnt'⟩))/\ Q v en' cnt'
theorem wF.mono {L:bJ}{R:Val->En->(Nat->Nat->Nat)->Prop}
  (h:wF L f args en cnt Q) (k: ∀v en' cnt',Q v en' cnt'->R v en' cnt'):wF L f args en cnt R:=by
 obtain⟨v,en',cnt',h1,h2⟩:=h;exact⟨v,en',cnt',h1,k _ _ _ h2⟩
def lZ (L:bJ)(o:aM)(st:St)(K:Val->St->Prop):Prop:=
 match wanted st.fr o.guard with
 |some true=>match o.op with
  | .panic x=>match St.get st.fr x with
   | .ifc t u=>(Val.ifc t u).flat=true/\ K (.ifc t u) st
   |_=>False
  | .call f args=>match f.noM,St.get st.fr f with
   |true,.fn f a b=>match cU (snapD 8 st.en) (a++args.map (St.get st.fr)++b)with
    |some rs=> ∃v,PX L f (rs.map (·.1.wk1)) v/\ K v st
    |none=>False
   |_,_=>False
  | .icall f args=>match St.get st.fr f with
   | .fn f a b=>wF L f (a++args.map (St.get st.fr)++b) st.en st.cnt fun v en' cnt'=>K v ⟨st.fr,en',cnt'⟩
   |_=>False
  |_=>False
 |_=>False
theorem tY {L:bJ}{o:aM}{K K':Val->St->Prop}(h:lZ L o st K)(k: ∀v s,K v s->K' v s):lZ L o st K':=by
 unfold lZ at h⊢
 split at h
 case h_2=>cases h
 split at h
 ·split at h
  case h_2=>cases h
  exact⟨h.1,k _ _ h.2⟩
 ·split at h
  case h_2=>cases h
  split at h
  case h_2=>cases h
  obtain⟨v,h1,h2⟩:=h;exact⟨v,h1,k _ _ h2⟩
 ·split at h
  case h_2=>cases h
  exact h.mono fun _ _ _=>k _ _
 ·cases h
theorem aAg {L:bJ}{o:aM}{K:Val->St->Prop}(h:lZ L o st K):
  ∃v st',(∃n0,∀n,n0<=n->dT 8 (cR L (exec L n)) (eD L (exec L n)) st o=some (v,st'))/\ K v st':=by
 unfold lZ at h
 split at h
 case h_2=>cases h
 rename_i hw
 split at h
 ·rename_i x hop
  split at h
  case h_2=>cases h
  rename_i t u hu;exact⟨_,_,⟨0,fun n _=>by simp only[dT,hw,hop,hu,h.1,if_true]⟩,h.2⟩
 ·rename_i f args hop
  split at h
  case h_2=>cases h
  rename_i f' a b hf1 hf2
  split at h
  case h_2=>cases h
  rename_i rs hrs;obtain⟨v,⟨n0,h1⟩,h2⟩:=h
  refine⟨v,st,⟨n0,fun n hn=>?_⟩,h2⟩
  have:cU (fun x=>snap 8 st.en x) (a++args.map (St.get st.fr)++b)=some rs:=aAf (fun x y hx=>tX st.en 8 x y hx 8 (bOy _)) hrs
  have h1:=h1 n hn;unfold bFs at h1;simp only[dT,hw,hop,hf1,hf2,this,h1,bPq]
 ·rename_i f args hop
  split at h
  case h_2=>cases h
  rename_i f' a b hf;obtain⟨v,en',cnt',⟨n0,h1⟩,h2⟩:=h;exact⟨v,_,⟨n0,fun n hn=>by simp only[dT,hw,hop,hf,h1 n hn]⟩,h2⟩
 ·cases h
def jU (cnt:Nat->Nat->Nat):Key:=⟨1,0,cnt 1 0⟩
def Wp (L:bJ):bB->St->(Ex->St->Prop)->Prop
 | .skip,st,Q=>Q .normal st
 | .ops l,st,Q=>iW L l st (Q .normal)
 | .draw l pairs,st,Q=>if pairs=[]then iW L l st (Q .normal)else qY L l st fun st' rs=>dS rs pairs=true/\ Q .normal st'
 | .seq a b,st,Q=>Wp L a st fun e st'=>match e with
  | .normal=>Wp L b st' Q
  | .exit i=>Q (.exit i) st'
  | .ret=>Q .ret st'
  | .panic v=>Q (.panic v) st'
 | .cond x a b,st,Q=>match St.get st.fr x with
  | .bool t=>if t=true then Wp L a st Q else Wp L b st Q
  |_=>False
 | .block id b,st,Q=>Wp L b st fun e st'=>match e with
  | .exit id'=>if id'=id then Q .normal st' else Q (.exit id') st'
  | .normal=>Q .normal st'
  | .ret=>Q .ret st'
  | .panic v=>Q (.panic v) st'
 | .loop b,st,Q=> ∃e st',Ev L (.loop b) st e st'/\ Q e st'
 | .exit id,st,Q=>Q (.exit id) st
 | .ret,st,Q=>Q .ret st
 | .rangeF g ps a b,st,Q=>
  match St.get st.fr g with
  | .fn f x y=>(WIn L (.fn f x y) [.yld (jU st.cnt)] (st.en.set (jU st.cnt) (some (.loop st.fr ps a b .ready))) (aC st.cnt 1 0 (st.cnt 1 0+1)) fun _ en' cnt'=>
   match en' (jU st.cnt)with
   |some (.loop _ _ _ _ .ready)=>Q .normal ⟨st.fr,en'.set (jU st.cnt) none,cnt'⟩
   |some (.loop _ _ _ _ (.done e))=>Q e ⟨st.fr,en'.set (jU st.cnt) none,cnt'⟩
   |_=>False) \/wF L f (x++[.yld (jU st.cnt)]++y) (st.en.set (jU st.cnt) (some (.loop st.fr ps a b .ready))) (aC st.cnt 1 0 (st.cnt 1 0+1)) fun v en' cnt'=>Q (.panic v) ⟨st.fr,en'.set (jU st.cnt) none,cnt'⟩
  |_=>False
 | .opsP l,st,Q=>iW L l st (Q .normal) \/ ∃k o,l[k]?=some o/\ iW L (l.take k) st fun st1=>lZ L o st1 fun v st2=>Q (.panic v) st2
 | .drawP l an pairs,st,Q=>(qY L l st fun st' rs=>dS rs pairs=true/\ Q .normal st') \/
   ∃j o,l[j]?=some o/\ (iW L (l.take j) st fun s=>lZ L o s fun _ _=>True)/\ qY L (dD an j l) st fun st1 rs=>(dS rs pairs&&jT an j l rs)=true/\
    lZ L o st1 fun v st2=>Q (.panic v) ⟨fun t=>if mN l t then .tup []else st2.fr t,st2.en,st2.cnt⟩
 | .drawL l an pairs A,st,Q=>(qY L (iY A (iH st (l.getD A default)) l) (vG (iH st (l.getD A default)) (aMo (l.getD A default).op) st) fun st' rs=>(dS rs pairs&&oS an A (iH st (l.getD A default)) rs)=true/\ Q .normal st') \/
   ∃j o,(iY A (iH st (l.getD A default)) l)[j]?=some o/\ (iW L ((iY A (iH st (l.getD A default)) l).take j) (vG (iH st (l.getD A default)) (aMo (l.getD A default).op) st) fun s=>lZ L o s fun _ _=>True)/\
    qY L (dD an j (iY A (iH st (l.getD A default)) l)) (vG (iH st (l.getD A default)) (aMo (l.getD A default).op) st) fun st1 rs=>((dS rs pairs&&jT an j (iY A (iH st (l.getD A default)) l) rs)&&oS an A (iH st (l.getD A default)) rs)=true/\
    lZ L o st1 fun v st2=>Q (.panic v) ⟨fun t=>if mN (iY A (iH st (l.getD A default)) l) t then .tup []else st2.fr t,st2.en,st2.cnt⟩
 | .dfr ts l f args b,st,Q=>iW L l st fun st2=>Wp L b st2 fun e st3=>ts.any (fun t=>(st3.fr t).isUndef)=false/\
   ∃st4,(∃n0,∀n,n0<=n->iB L (exec L n) (St.get st2.fr f) (args.map (St.get st2.fr)) e st3=some st4)/\ Q .ret st4
 | .rcv _ _ _,_,_=>False
variable {call:bH}{io:Inl}
theorem bC7 {n:Nat}{o:aM}{r:Res}(hme:o.op.me 0=0)(hne: ∀f a,o.op≠ .icall f a)(hw:wanted st.fr o.guard=some true)
  (he:eval n call 0 (o.dst.getD 0) (st.cnt 0 (o.dst.getD 0)) st.en (St.get st.fr) o.op=some r) (hb:(r.bump&&o.dst.isNone)=false):
  step n call io 0 st o=some (⟨hZ st.fr o.dst r.v,W.applyAll st.en r.ws,if r.bump then aC st.cnt 0 (o.dst.getD 0) (st.cnt 0 (o.dst.getD 0)+1)else st.cnt⟩,r):=by
 obtain⟨dst,op,guard⟩:=o
 simp only at hw he hb hne hme
 cases op with
 |icall f a=>exact absurd rfl (hne _ _)
 |_=>simp only[step,hw,hme,he,hb,bO0,if_false]
theorem aV4 {L:bJ}{o:aM}{K:St->Res->Prop}(h:oF L st o K):
  ∃st' r,(∃n0,∀n,n0<=n->step 8 (lC L n) (eW L (exec L n)) 0 st o=some (st',r))/\ K st' r:=by
 unfold oF at h
 split at h
 ·rename_i hw
  split at h
  ·rename_i f args hop;obtain⟨v,en',cnt',⟨n0,hn⟩,hk⟩:=h
   refine⟨_,_,⟨n0,fun n hn'=>?_⟩,hk⟩
   simp only[step,hw,hop,hn n hn']
  ·rename_i op hne;obtain⟨hme,r,⟨n0,hn⟩,hb,hk⟩:=bGe h;exact⟨_,r,⟨n0,fun n hn'=>bC7 hme (fun f a=>hne f a) hw (hn n hn') hb⟩,hk⟩
 ·rename_i hw;exact⟨_,_,⟨0,fun n _=>by simp only[step,hw]⟩,h⟩
 ·exact h.elim
theorem aAh {L:bJ}(l:List aM): ∀{st:St} {Q:St->Prop},iW L l st Q->
  ∃st',(∃n0,∀n,n0<=n->gJ 8 (lC L n) (eW L (exec L n)) 0 l st=some st')/\ Q st':=by
 induction l with
 |nil=>intro st Q h;exact⟨st,⟨0,fun n _=>rfl⟩,h⟩
 |cons o l ih=>
  intro st Q h;obtain⟨st1,r,⟨n1,h1⟩,hk⟩:=aV4 h;obtain⟨st2,⟨n2,h2⟩,hq⟩:=ih hk;exact⟨st2,⟨max n1 n2,fun n hn=>by simp only[gJ,h1 n (by omega),h2 n (by omega)]⟩,hq⟩
theorem aJu {L:bJ}(l:List aM): ∀{st:St} {Q:St->List Res->Prop},qY L l st Q->
  ∃st' rs,(∃n0,∀n,n0<=n->iV 8 (lC L n) (eW L (exec L n)) 0 l st=some (st',rs))/\ Q st' rs:=by
 induction l with
 |nil=>intro st Q h;exact⟨st,[],⟨0,fun n _=>rfl⟩,h⟩
 |cons o l ih=>
  intro st Q h;obtain⟨st1,r,⟨n1,h1⟩,hk⟩:=aV4 h;obtain⟨st2,rs,⟨n2,h2⟩,hq⟩:=ih hk;exact⟨st2,r::rs,⟨max n1 n2,fun n hn=>by simp only[iV,h1 n (by omega),h2 n (by omega)]⟩,hq⟩
theorem aGc {n:Nat}(l:List aM): ∀{st st':St},gJ n call io 0 l st=some st'-> ∃rs,iV n call io 0 l st=some (st',rs):=by
 induction l with
 |nil=>intro st st' h;simp only[gJ,bOw]at h;subst h;exact⟨[],rfl⟩
 |cons o l ih=>
  intro st st' h;simp only[gJ]at h
  split at h
  ·rename_i st1 r hs;obtain⟨rs,hr⟩:=ih h;exact⟨r::rs,by simp only[iV,hs,hr]⟩
  ·cases h
theorem aV5 {L:bJ}{x:bB->St->Option (Ex×St)}{k:Nat}: ∀(l:List aM) {st st':St},gJ 8 (bM L k x) (eW L x) 0 l st=some st'->aD1 8 (bM L k x) (eW L x) (cR L x) (eD L x) l st=some (.normal,st')
 |[],st,st',h=>by simp only[gJ,bOw]at h;subst h;rfl
 |o::l,st,st',h=>by
  simp only[gJ]at h
  split at h
  case h_2=>cases h
  rename_i hs;have hn:dT 8 (cR L x) (eD L x) st o=none:=by
   cases hq:dT 8 (cR L x) (eD L x) st o with
   |none=>rfl
   |some q=>rw[aAd hq]at hs;cases hs
  simp only[aD1,hn,hs];exact aV5 l h
theorem aEi {L:bJ}{x:bB->St->Option (Ex×St)}{k:Nat}: ∀(l:List aM) {j:Nat} {o:aM} {st st':St} {v:Val} {st2:St},l[j]?=some o->gJ 8 (bM L k x) (eW L x) 0 (l.take j) st=some st'->
  dT 8 (cR L x) (eD L x) st' o=some (v,st2)->aD1 8 (bM L k x) (eW L x) (cR L x) (eD L x) l st=some (.panic v,st2)/\ ∀i,pR 8 (bM L k x) (eW L x) (cR L x) (eD L x) l i st=some (i+j)
 |[],j,o,st,st',v,st2,hj,_,_=>by simp at hj
 |o'::l,0,o,st,st',v,st2,hj,hr,hp=>by
  simp only[bRf,bOw]at hj;subst hj;simp only[bO3,gJ,bOw]at hr;subst hr;exact⟨by simp only[aD1,hp],fun i=>by simp only[pR,hp,bQh]⟩
 |o'::l,j+1,o,st,st',v,st2,hj,hr,hp=>by
  simp only[bR9]at hj;simp only[bO5,gJ]at hr
  split at hr
  case h_2=>cases hr
  rename_i hs;have hn:dT 8 (cR L x) (eD L x) st o'=none:=by
   cases hq:dT 8 (cR L x) (eD L x) st o' with
   |none=>rfl
   |some q=>rw[aAd hq]at hs;cases hs
  obtain⟨h1,h2⟩:=aEi l hj hr hp
  refine⟨by simp only[aD1,hn,hs];exact h1,fun i=>?_⟩
  simp only[pR,hn,hs];rw[h2 (i+1)]
  congr 1;omega
theorem aH8 {L:bJ}{ex:bB->St->Option (Ex×St)}{r:Val×St}(h:eD L ex f args st=some r):zU L ex f args st=none:=by
 unfold eD at h
 split at h
 ·cases h
 rename_i lf hL
 split at h
 case isFalse=>cases h
 rename_i hc;have:kP L ex f args st=none:=by
  simp only[kP,hL,hc.1,if_true,hc.2,bO0,if_false]
  split at h
  ·rename_i v st' he;rw[he];rfl
  ·cases h
 simp only[zU,this]
theorem aEj {L:bJ}(c:bB): ∀{st:St} {Q:Ex->St->Prop},Wp L c st Q-> ∃e st',Ev L c st e st'/\ Q e st':=by
 induction c with
 |skip=>intro st Q h;exact⟨.normal,st,⟨1,fun n hn=>by obtain⟨m,rfl⟩: ∃m,n=m+1:=⟨n-1,by omega⟩;rfl⟩,h⟩
 |ops l=>
  intro st Q h;obtain⟨st',⟨n0,h0⟩,hq⟩:=aAh l h
  refine⟨.normal,st',⟨n0+1,fun n hn=>?_⟩,hq⟩
  obtain⟨m,rfl⟩: ∃m,n=m+1:=⟨n-1,by omega⟩
  have:=h0 m (by omega)
  simp only[lC]at this;simp only[exec,this,Option.map]
 |draw l pairs=>
  intro st Q h;simp only[Wp]at h
  split at h
  ·rename_i hp;obtain⟨st',⟨n0,h0⟩,hq⟩:=aAh l h
   refine⟨.normal,st',⟨n0+1,fun n hn=>?_⟩,hq⟩
   obtain⟨m,rfl⟩: ∃m,n=m+1:=⟨n-1,by omega⟩
   obtain⟨rs,hr⟩:=aGc l (h0 m (by omega))
   simp only[lC]at hr;simp only[exec,hr,hp,dS,List.all_nil,if_true]
  ·obtain⟨st',rs,⟨n0,h0⟩,hp,hq⟩:=aJu l h
   refine⟨.normal,st',⟨n0+1,fun n hn=>?_⟩,hq⟩
   obtain⟨m,rfl⟩: ∃m,n=m+1:=⟨n-1,by omega⟩
   have hr:=h0 m (by omega)
   simp only[lC]at hr;simp only[exec,hr,hp,if_true]
 |seq a b iha ihb=>
  intro st Q h;obtain⟨e,st1,⟨n1,h1⟩,hk⟩:=iha h;cases e with
  |normal=>
   obtain⟨e2,st2,⟨n2,h2⟩,hq⟩:=ihb hk
   refine⟨e2,st2,⟨max n1 n2+1,fun n hn=>?_⟩,hq⟩
   obtain⟨m,rfl⟩: ∃m,n=m+1:=⟨n-1,by omega⟩
   simp only[exec,h1 m (by omega),h2 m (by omega)]
  |exit id=>
   refine⟨_,st1,⟨n1+1,fun n hn=>?_⟩,hk⟩
   obtain⟨m,rfl⟩: ∃m,n=m+1:=⟨n-1,by omega⟩
   simp only[exec,h1 m (by omega)]
  |ret=>
   refine⟨_,st1,⟨n1+1,fun n hn=>?_⟩,hk⟩
   obtain⟨m,rfl⟩: ∃m,n=m+1:=⟨n-1,by omega⟩
   simp only[exec,h1 m (by omega)]
  |panic v=>
   refine⟨_,st1,⟨n1+1,fun n hn=>?_⟩,hk⟩
   obtain⟨m,rfl⟩: ∃m,n=m+1:=⟨n-1,by omega⟩
   simp only[exec,h1 m (by omega)]
 |cond x a b iha ihb=>
  intro st Q h;simp only[Wp]at h
  split at h
  ·rename_i t ht;cases t with
   |true=>
    obtain⟨e,st1,⟨n1,h1⟩,hk⟩:=iha (by simpa using h)
    refine⟨e,st1,⟨n1+1,fun n hn=>?_⟩,hk⟩
    obtain⟨m,rfl⟩: ∃m,n=m+1:=⟨n-1,by omega⟩
    simp only[exec,ht,h1 m (by omega)]
   |false=>
    obtain⟨e,st1,⟨n1,h1⟩,hk⟩:=ihb (by simpa using h)
    refine⟨e,st1,⟨n1+1,fun n hn=>?_⟩,hk⟩
    obtain⟨m,rfl⟩: ∃m,n=m+1:=⟨n-1,by omega⟩
    simp only[exec,ht,h1 m (by omega)]
  ·exact h.elim
 |block id b ih=>
  intro st Q h;obtain⟨e,st1,⟨n1,h1⟩,hk⟩:=ih h;cases e with
  |exit id'=>
   simp only at hk
   by_cases hi:id'=id
   ·rw[if_pos hi]at hk
    refine⟨.normal,st1,⟨n1+1,fun n hn=>?_⟩,hk⟩
    obtain⟨m,rfl⟩: ∃m,n=m+1:=⟨n-1,by omega⟩
    simp only[exec,h1 m (by omega),hi,if_true]
   ·rw[if_neg hi]at hk
    refine⟨.exit id',st1,⟨n1+1,fun n hn=>?_⟩,hk⟩
    obtain⟨m,rfl⟩: ∃m,n=m+1:=⟨n-1,by omega⟩
    simp only[exec,h1 m (by omega),hi,if_false]
  |normal=>
   refine⟨_,st1,⟨n1+1,fun n hn=>?_⟩,hk⟩
   obtain⟨m,rfl⟩: ∃m,n=m+1:=⟨n-1,by omega⟩
   simp only[exec,h1 m (by omega)]
  |ret=>
   refine⟨_,st1,⟨n1+1,fun n hn=>?_⟩,hk⟩
   obtain⟨m,rfl⟩: ∃m,n=m+1:=⟨n-1,by omega⟩
   simp only[exec,h1 m (by omega)]
  |panic v=>
   refine⟨_,st1,⟨n1+1,fun n hn=>?_⟩,hk⟩
   obtain⟨m,rfl⟩: ∃m,n=m+1:=⟨n-1,by omega⟩
   simp only[exec,h1 m (by omega)]
 |loop b ih=>intro st Q h;exact h
 |exit id=>intro st Q h;exact⟨.exit id,st,⟨1,fun n hn=>by obtain⟨m,rfl⟩: ∃m,n=m+1:=⟨n-1,by omega⟩;rfl⟩,h⟩
 |ret=>intro st Q h;exact⟨.ret,st,⟨1,fun n hn=>by obtain⟨m,rfl⟩: ∃m,n=m+1:=⟨n-1,by omega⟩;rfl⟩,h⟩
 |rangeF g ps a b=>
  intro st Q h;simp only[Wp]at h
  split at h
  ·rename_i f x y hg;rcases h with h|⟨v,en',cnt',⟨n1,h1⟩,hk⟩
   case inr=>
    refine⟨_,_,⟨n1+1,fun n hn=>?_⟩,hk⟩
    obtain⟨m,rfl⟩: ∃m,n=m+1:=⟨n-1,by omega⟩
    have hi:=h1 m (by omega) st.fr
    simp only[jU]at hi;simp only[exec,hg,nG,jU,aH8 hi,hi]
   obtain⟨v,en',cnt',⟨n1,h1⟩,hk⟩:=h;have run: ∀n,n1+1<=n-> ∀r,(match en' (jU st.cnt)with
     |some (.loop _ _ _ _ .ready)=>some (Ex.normal,{fr:=st.fr,en:=en'.set (jU st.cnt) none,cnt:=cnt':St})
     |some (.loop _ _ _ _ (.done e))=>some (e,{fr:=st.fr,en:=en'.set (jU st.cnt) none,cnt:=cnt'})
     |_=>none)=some r->exec L n (.rangeF g ps a b) st=some r:=by
    intro n hn r hr;obtain⟨m,rfl⟩: ∃m,n=m+1:=⟨n-1,by omega⟩
    have hi:=h1 m (by omega) st.fr
    simp only[Inl.call,eW]at hi;simp only[exec,hg,nG];simp only[jU]at hi hr;rw[hi];exact hr
   split at hk
   ·rename_i hl;exact⟨_,_,⟨n1+1,fun n hn=>run n hn _ (by simp only[hl])⟩,hk⟩
   ·rename_i hl;exact⟨_,_,⟨n1+1,fun n hn=>run n hn _ (by simp only[hl])⟩,hk⟩
   ·exact hk.elim
  ·exact h.elim
 |rcv d l b=>intro st Q h;exact h.elim
 |opsP l=>
  intro st Q h;rcases h with h|⟨k,o,hk,h⟩
  ·obtain⟨st',⟨n0,h0⟩,hq⟩:=aAh l h
   refine⟨.normal,st',⟨n0+1,fun n hn=>?_⟩,hq⟩
   obtain⟨m,rfl⟩: ∃m,n=m+1:=⟨n-1,by omega⟩
   rw[exec];exact aV5 l (h0 m (by omega))
  ·obtain⟨st1,⟨n0,h0⟩,hp⟩:=aAh _ h;obtain⟨v,st2,⟨n1,h1⟩,hq⟩:=aAg hp
   refine⟨.panic v,st2,⟨max n0 n1+1,fun n hn=>?_⟩,hq⟩
   obtain⟨m,rfl⟩: ∃m,n=m+1:=⟨n-1,by omega⟩
   rw[exec];exact(aEi l hk (h0 m (by omega)) (h1 m (by omega))).1
 |drawP l an pairs=>
  intro st Q h;rcases h with h|⟨j,o,hj,h1,h2⟩
  ·obtain⟨st',rs,⟨n0,h0⟩,hp,hq⟩:=aJu l h
   refine⟨.normal,st',⟨n0+1,fun n hn=>?_⟩,hq⟩
   obtain⟨m,rfl⟩: ∃m,n=m+1:=⟨n-1,by omega⟩
   have hr:=h0 m (by omega)
   simp only[lC]at hr;simp only[exec,tW l hr,hr,hp,if_true]
  ·obtain⟨s,⟨n0,h0⟩,hp0⟩:=aAh _ h1;obtain⟨v0,s2,⟨n1,hn1⟩,_⟩:=aAg hp0;obtain⟨st1,rs,⟨n2,hn2⟩,hc,hp⟩:=aJu _ h2;obtain⟨v,st2,⟨n3,hn3⟩,hq⟩:=aAg hp
   refine⟨_,_,⟨max (max n0 n1) (max n2 n3)+1,fun n hn=>?_⟩,hq⟩
   obtain⟨m,rfl⟩: ∃m,n=m+1:=⟨n-1,by omega⟩
   have hf:=(aEi l hj (h0 m (by omega)) (hn1 m (by omega))).2 0
   rw[bPs]at hf;have hr:=hn2 m (by omega)
   simp only[lC]at hr;have hoj:l.getD j default=o:=by simp[bO2,hj]
   simp only[exec,hf,vF,hr,hc,if_true,hoj,hn3 m (by omega)]
 |drawL l an pairs A=>
  intro st Q h;rcases h with h|⟨j,o,hj,h1,h2⟩
  ·obtain⟨st',rs,⟨n0,h0⟩,hp,hq⟩:=aJu _ h
   refine⟨.normal,st',⟨n0+1,fun n hn=>?_⟩,hq⟩
   obtain⟨m,rfl⟩: ∃m,n=m+1:=⟨n-1,by omega⟩
   have hr:=h0 m (by omega)
   simp only[lC]at hr;rw[exec];unfold wS;simp only[tW _ hr,hr,hp,if_true]
  ·obtain⟨s,⟨n0,h0⟩,hp0⟩:=aAh _ h1;obtain⟨v0,s2,⟨n1,hn1⟩,_⟩:=aAg hp0;obtain⟨st1,rs,⟨n2,hn2⟩,hc,hp⟩:=aJu _ h2;obtain⟨v,st2,⟨n3,hn3⟩,hq⟩:=aAg hp
   refine⟨_,_,⟨max (max n0 n1) (max n2 n3)+1,fun n hn=>?_⟩,hq⟩
   obtain⟨m,rfl⟩: ∃m,n=m+1:=⟨n-1,by omega⟩
   have hf:=(aEi _ hj (h0 m (by omega)) (hn1 m (by omega))).2 0
   rw[bPs]at hf;have hr:=hn2 m (by omega)
   simp only[lC]at hr;have hoj:(iY A (iH st (l.getD A default)) l).getD j default=o:=by rw[bO2,hj];rfl
   rw[exec];unfold wS;simp only[hf,hr,hc,if_true,hoj,hn3 m (by omega)]
 |dfr ts l f args b ih=>
  intro st Q h;obtain⟨st2,⟨n0,h0⟩,hb⟩:=aAh l h;obtain⟨e,st3,⟨n1,h1⟩,hts,st4,⟨n2,h2⟩,hq⟩:=ih hb
  refine⟨.ret,st4,⟨max n0 (max n1 n2)+1,fun n hn=>?_⟩,hq⟩
  obtain⟨m,rfl⟩: ∃m,n=m+1:=⟨n-1,by omega⟩
  have hr:=h0 m (by omega)
  simp only[lC]at hr;simp only[exec,hr,h1 m (by omega),hts,bO0,if_false,h2 m (by omega),bPq]
theorem wp_loop {L:bJ}{b:bB}{Q:Ex->St->Prop}(I:α->St->Prop)(μ:α->Nat)(x:α)(h0:I x st)
  (hr: ∀x st,I x st->Wp L b st fun e st'=>match e with
   | .normal=> ∃y,I y st'/\ μ y<μ x
   | .exit i=>Q (.exit i) st'
   | .ret=>Q .ret st'
   | .panic v=>Q (.panic v) st'):Wp L (.loop b) st Q:=by
 have key: ∀m x st,μ x=m->I x st-> ∃e st',Ev L (.loop b) st e st'/\ Q e st':=by
  intro m
  induction m using Nat.strongRecOn with
  |_ m ih=>
   intro x st hm hI;obtain⟨e,st1,⟨n1,h1⟩,hk⟩:=aEj b (hr x st hI);cases e with
   |normal=>
    obtain⟨y,hy,hlt⟩:=hk;obtain⟨e2,st2,⟨n2,h2⟩,hq⟩:=ih (μ y) (hm▸hlt) y st1 rfl hy
    refine⟨e2,st2,⟨max n1 n2+1,fun n hn=>?_⟩,hq⟩
    obtain⟨m',rfl⟩: ∃m,n=m+1:=⟨n-1,by omega⟩
    simp only[exec,h1 m' (by omega),h2 m' (by omega)]
   |exit id=>
    refine⟨_,st1,⟨n1+1,fun n hn=>?_⟩,hk⟩
    obtain⟨m',rfl⟩: ∃m,n=m+1:=⟨n-1,by omega⟩
    simp only[exec,h1 m' (by omega)]
   |ret=>
    refine⟨_,st1,⟨n1+1,fun n hn=>?_⟩,hk⟩
    obtain⟨m',rfl⟩: ∃m,n=m+1:=⟨n-1,by omega⟩
    simp only[exec,h1 m' (by omega)]
   |panic v=>
    refine⟨_,st1,⟨n1+1,fun n hn=>?_⟩,hk⟩
    obtain⟨m',rfl⟩: ∃m,n=m+1:=⟨n-1,by omega⟩
    simp only[exec,h1 m' (by omega)]
 exact key _ x st rfl h0
theorem wp_mono {L:bJ}(c:bB): ∀{st:St} {Q R:Ex->St->Prop},Wp L c st Q->(∀e st',Q e st'->R e st')->Wp L c st R:=by
 have stp: ∀{st:St} {o:aM} {K K':St->Res->Prop},oF L st o K->(∀s r,K s r->K' s r)->oF L st o K':=by
  intro st o K K' h hk;unfold oF at h⊢;split
  ·rename_i hw;simp only[hw]at h;split
   ·rename_i f args hop;simp only[hop]at h;exact h.mono fun _ _ _=>hk _ _
   ·rename_i op hne;have h':WOp L (o.dst.getD 0) (st.cnt 0 (o.dst.getD 0)) st.en (St.get st.fr) o.op fun r=>(r.bump&&o.dst.isNone)=false/\
      K ⟨hZ st.fr o.dst r.v,W.applyAll st.en r.ws,if r.bump then aC st.cnt 0 (o.dst.getD 0) (st.cnt 0 (o.dst.getD 0)+1)else st.cnt⟩ r:=by
     split at h
     ·rename_i f a hx;exact absurd hx (hne f a)
     ·exact h
    have oth: ∀{K K':Res->Prop},(∀r,K r->K' r)->(match dE (o.dst.getD 0) (st.cnt 0 (o.dst.getD 0)) st.en (St.get st.fr) o.op with|some r=>K r|none=>False)->
      (match dE (o.dst.getD 0) (st.cnt 0 (o.dst.getD 0)) st.en (St.get st.fr) o.op with|some r=>K' r|none=>False):=by
     intro K K' hk h;split<;>rename_i hr<;>simp only[hr]at h;exact hk _ h
    have mono: ∀{K K':Res->Prop},(∀r,K r->K' r)->WOp L (o.dst.getD 0) (st.cnt 0 (o.dst.getD 0)) st.en (St.get st.fr) o.op K->WOp L (o.dst.getD 0) (st.cnt 0 (o.dst.getD 0)) st.en (St.get st.fr) o.op K':=by
     intro K K' hk h;generalize hop:o.op=op at h⊢oth;cases op with
     |call f args=>
      simp only[WOp]at h⊢
      split at h
      ·split at h
       ·obtain⟨r,h1,h2⟩:=h;exact⟨r,h1,hk _ h2⟩
       ·exact h.elim
      ·exact h.elim
     |_=>exact oth hk h
    exact mono (fun r ⟨h1,h2⟩=>⟨h1,hk _ _ h2⟩) h'
  ·rename_i hw;simp only[hw]at h;exact hk _ _ h
  ·rename_i hw;simp only[hw]at h
 have ops: ∀(l:List aM) {st:St} {Q R:St->Prop},iW L l st Q->(∀s,Q s->R s)->iW L l st R:=by
  intro l
  induction l with
  |nil=>intro st Q R h k;exact k _ h
  |cons o l ih=>intro st Q R h k;exact stp h fun s r hs=>ih hs k
 have rec_: ∀(l:List aM) {st:St} {Q R:St->List Res->Prop},qY L l st Q->(∀s rs,Q s rs->R s rs)->qY L l st R:=by
  intro l
  induction l with
  |nil=>intro st Q R h k;exact k _ _ h
  |cons o l ih=>intro st Q R h k;exact stp h fun s r hs=>ih hs fun s rs hq=>k _ _ hq
 induction c with
 |skip=>intro st Q R h k;exact k _ _ h
 |ops l=>intro st Q R h k;exact ops l h fun s=>k _ s
 |draw l pairs=>
  intro st Q R h k;simp only[Wp]at h⊢
  split at h
  ·rename_i hp;rw[if_pos hp];exact ops l h fun s=>k _ s
  ·rename_i hp;rw[if_neg hp];exact rec_ l h fun s rs ⟨h1,h2⟩=>⟨h1,k _ _ h2⟩
 |seq a b iha ihb=>
  intro st Q R h k
  refine iha h fun e st' hq=>?_
  cases e with
  |normal=>exact ihb hq k
  |exit i=>exact k _ _ hq
  |ret=>exact k _ _ hq
  |panic v=>exact k _ _ hq
 |cond x a b iha ihb=>
  intro st Q R h k;simp only[Wp]at h⊢
  split at h
  ·rename_i t ht
   split at h
   ·rename_i htt;rw[if_pos htt];exact iha h k
   ·rename_i htt;rw[if_neg htt];exact ihb h k
  ·exact h.elim
 |block id b ih=>
  intro st Q R h k
  refine ih h fun e st' hq=>?_
  cases e with
  |normal=>exact k _ _ hq
  |exit i=>
   simp only at hq⊢
   split at hq
   ·rename_i hi;rw[if_pos hi];exact k _ _ hq
   ·rename_i hi;rw[if_neg hi];exact k _ _ hq
  |ret=>exact k _ _ hq
  |panic v=>exact k _ _ hq
 |loop b ih=>intro st Q R h k;obtain⟨e,st',h1,h2⟩:=h;exact⟨e,st',h1,k _ _ h2⟩
 |exit id=>intro st Q R h k;exact k _ _ h
 |ret=>intro st Q R h k;exact k _ _ h
 |rangeF g ps a b=>
  intro st Q R h k;simp only[Wp]at h⊢
  split at h
  ·rcases h with h|h
   ·refine .inl (h.mono fun v en' cnt' hq=>?_)
    split at hq
    ·exact k _ _ hq
    ·exact k _ _ hq
    ·exact hq.elim
   ·exact .inr (h.mono fun v en' cnt' hq=>k _ _ hq)
  ·exact h.elim
 |rcv d l b=>intro st Q R h k;exact h.elim
 |opsP l=>
  intro st Q R h k;rcases h with h|⟨j,o,hj,h⟩
  ·exact .inl (ops l h fun s=>k _ s)
  ·exact .inr ⟨j,o,hj,ops _ h fun s hs=>tY hs fun v s2=>k _ s2⟩
 |drawP l an pairs=>
  intro st Q R h k;rcases h with h|⟨j,o,hj,h1,h2⟩
  ·exact .inl (rec_ l h fun s rs ⟨h1,h2⟩=>⟨h1,k _ _ h2⟩)
  ·exact .inr ⟨j,o,hj,h1,rec_ _ h2 fun s rs ⟨q1,q2⟩=>⟨q1,tY q2 fun v s2=>k _ _⟩⟩
 |drawL l an pairs A=>
  intro st Q R h k;rcases h with h|⟨j,o,hj,h1,h2⟩
  ·exact .inl (rec_ _ h fun s rs ⟨h1,h2⟩=>⟨h1,k _ _ h2⟩)
  ·exact .inr ⟨j,o,hj,h1,rec_ _ h2 fun s rs ⟨q1,q2⟩=>⟨q1,tY q2 fun v s2=>k _ _⟩⟩
 |dfr ts l f args b ih=>
  intro st Q R h k;exact ops l h fun st2 hb=>ih hb fun e st3 ⟨h1,st4,h2,h3⟩=>⟨h1,st4,h2,k _ _ h3⟩
theorem bGf {L:bJ}{a b:bB}{Q:Ex->St->Prop}(M:St->Prop)
  (h:Wp L a st fun e st'=>match e with| .normal=>M st'| .exit i=>Q (.exit i) st'| .ret=>Q .ret st'| .panic v=>Q (.panic v) st') (k: ∀st',M st'->Wp L b st' Q):Wp L (.seq a b) st Q:=by
 refine wp_mono a h fun e st' hq=>?_
 cases e with
 |normal=>exact k _ hq
 |exit i=>exact hq
 |ret=>exact hq
 |panic v=>exact hq
def bC8 (st:St)(lf:jB)(r:Val):Prop:=
 match cU (pQ st) lf.res with
 |some vs=>match(if lf.keep then aVu st.en (zS vs)else none)with
  |some v=>v=r
  |none=>match snapD 8 st.en (zS vs)with
   |some (v,_)=>(if lf.keep then v else v.wk)=r
   |none=>False
 |none=>False
def bGg (L:bJ)(lf:jB)(args:List Val)(r:Val):Prop:= ∃n0,∀n,n0<=n->iT lf 8 (exec L n) args=some r
theorem pY {L:bJ}(h:Wp L lf.body (start args) fun e st=>e.ends=true/\ bC8 st lf r):bGg L lf args r:=by
 obtain⟨e,st,⟨n1,h1⟩,he,h2⟩:=aEj _ h
 refine⟨n1,fun n hm=>?_⟩
 simp only[iT,h1 n (by omega),he,if_true,aDz]
 unfold bC8 at h2
 split at h2
 ·rename_i vs hvs;simp only[hvs]
  split at h2
  ·rename_i v hv;rw[hv,h2]
  ·rename_i hv;rw[hv]
   split at h2
   ·rename_i v ks hs;simp only[tX _ _ _ _ hs 8 (bOy _),h2]
   ·exact h2.elim
 ·exact h2.elim
theorem aG {L:bJ}(hL:L f=some lf)(hn:args.length=lf.np)(ha:wR lf args=false)
  (h:Wp L lf.body (start args) fun e st=>e.ends=true/\ bC8 st lf r):PC L f args r:=by
 obtain⟨n1,h1⟩:=pY h
 refine⟨n1,fun n hm=>?_⟩
 simp only[lC,bM,hL,hn,if_true,ha,bO0,if_false,h1 n (by omega)]
theorem bC9 {a b:Option Val}(ha:a=some r)(hb:b=some r)(hr:r= .cl [] \/r= .fz []):jP a b=some r:=by
 rcases hr with rfl|rfl<;>simp[ha,hb,jP]
theorem aJv {L:bJ}(hL:L f=some lf)(hn:args.length=lf.np)(ha:wR lf args=true)(hr:r= .cl [] \/r= .fz [])(h1:bGg L lf [.es true] r)(h2:bGg L lf [.es false] r):PC L f args r:=by
 obtain⟨n1,h1⟩:=h1;obtain⟨n2,h2⟩:=h2
 refine⟨max n1 n2,fun n hm=>?_⟩
 simp only[lC,bM,hL,hn,if_true,ha];exact bC9 (h1 n (by omega)) (h2 n (by omega)) hr
theorem bD {L:bJ}{b:List Val}(hL:L f=some lf)(hn:(a++args++b).length=lf.np)(ha:wR lf (a++args++b)=false)
  (h:Wp L lf.body ⟨fun i=>(a++args++b).getD i (.tup []),en,cnt⟩ fun e st=>e.ends=true/\ match cU (pQ st) lf.res with|some vs=>Q (zS vs) st.en st.cnt|none=>False) (hz:lf.nrm=[]:=by rfl):WIn L (.fn f a b) args en cnt Q:=by
 obtain⟨e,st,⟨n1,h1⟩,he,h2⟩:=aEj _ h
 split at h2
 ·rename_i vs hvs
  refine⟨_,_,_,⟨n1,fun n hm fr=>?_⟩,h2⟩
  simp only[Inl.call,eW,zU,kP,hL,hn,if_true,ha,bO0,if_false,h1 n hm,he,hvs,Option.map,hz,norms]
 ·exact h2.elim
def cS (en:En):Val->Option (Val×List Key)
 | .ptr k off=>some (.ptr k off,[])
 |v=>match snapD 8 en v with
  |some r=>some (r.1.wk0,r.2)
  |none=>none
def tZ (en:En)(k:Key):Option En:=
 match en k with
 |some (.box cs false)=>match cU (cS en) cs with
  |some rs=>if(rs.flatMap (·.2)).contains k then none else some ((W.applyAll en ((rs.flatMap (·.2)).map .frz)).set k (some (.box (rs.map (·.1)) false)))
  |none=>none
 |_=>none
def oA (x:Val):List (List Nat)->En->Option En
 |[],en=>some en
 |p::ps,en=>match aQj en p x with
  |some k=>match tZ en k with
   |some en'=>oA x ps en'
   |none=>none
  |none=>none
theorem aOy {r:Val×List Key}(h:cS en v=some r):aD2 en v=some r:=by
 cases v<;>simp only[cS,aD2]at h⊢ <;>first
  |exact h
  |(split at h
    case h_2=>cases h
    rename_i r' hr;rw[tX en 8 _ _ hr 8 (bOy _)];exact h)
variable {en':En}
theorem aRg {k:Key}(h:tZ en k=some en'):aD3 en k=some en':=by
 unfold tZ at h;unfold aD3
 split at h
 ·rename_i cs hk;simp only[hk]
  split at h
  ·rename_i rs hrs;simp only[aAf (fun x y hx=>aOy hx) hrs];exact h
  ·cases h
 ·cases h
theorem aM4 {x:Val}: ∀{ps:List (List Nat)} {en en':En},oA x ps en=some en'->norms x ps en=some en'
 |[],_,_,h=>h
 |p::ps,en,en',h=>by
  simp only[oA]at h;simp only[norms]
  split at h
  case h_2=>cases h
  rename_i k hk
  split at h
  case h_2=>cases h
  rename_i e1 h1;simp only[hk,aRg h1];exact aM4 h
theorem rH {L:bJ}{b:List Val}(hL:L f=some lf)(hn:(a++args++b).length=lf.np)(ha:wR lf (a++args++b)=false)
  (h:Wp L lf.body ⟨fun i=>(a++args++b).getD i (.tup []),en,cnt⟩ fun e st=>e.ends=true/\ match cU (pQ st) lf.res with|some vs=>(match oA ((a++args++b).getD 0 .dead) lf.nrm st.en with|some en'=>Q (zS vs) en' st.cnt|none=>False)|none=>False):WIn L (.fn f a b) args en cnt Q:=by
 obtain⟨e,st,⟨n1,h1⟩,he,h2⟩:=aEj _ h
 split at h2
 ·rename_i vs hvs
  split at h2
  ·rename_i en' hen
   refine⟨_,_,_,⟨n1,fun n hm fr=>?_⟩,h2⟩
   simp only[Inl.call,eW,zU,kP,hL,hn,if_true,ha,bO0,if_false,h1 n hm,he,hvs,Option.map,aM4 hen]
  ·exact h2.elim
 ·exact h2.elim
variable {fr:Nat->Val}
theorem aIm {L:bJ}{k:Key}{a b:bB}
  (hk:en k=some (.loop fr ps a b .ready)) (hn:args.length=ps.length)
  (h:Wp L a ⟨zT fr ps args,en,cnt⟩ fun e st=>e= .normal/\ match st.en k with
   |some (.loop fr1 ps1 a1 b1 .ready)=>Wp L b ⟨st.fr,st.en.set k (some (.loop fr1 ps1 a1 b1 .busy)),st.cnt⟩ fun e st=>match st.en k with
    |some (.loop fr2 ps2 a2 b2 .busy)=>e.calm=true/\ Q (.bool (decide (e= .normal))) (st.en.set k (some (.loop fr2 ps2 a2 b2 (if e= .normal then .ready else .done e)))) st.cnt
    |_=>False
   |_=>False):WIn L (.yld k) args en cnt Q:=by
 obtain⟨e,st,⟨n1,h1⟩,rfl,h2⟩:=aEj _ h
 split at h2
 ·rename_i fr1 ps1 a1 b1 hk1;obtain⟨e2,st2,⟨n2,h3⟩,h4⟩:=aEj _ h2
  split at h4
  ·rename_i hk2
   refine⟨_,_,_,⟨max n1 n2,fun n hm fr'=>?_⟩,h4.2⟩
   simp only[Inl.call,eW,aD0,hk,hn,if_true,h1 n (by omega),hk1,h3 n (by omega),hk2,h4.1]
  ·exact h4.elim
 ·exact h2.elim
theorem aAi {L:bJ}(hL:L f=some lf)(hn:args.length=lf.np)(ha:wR lf args=false)
  (h:Wp L lf.body (start args) fun e st=>e= .panic v):PX L f args v:=by
 obtain⟨e,st,⟨n1,h1⟩,he⟩:=aEj _ h;subst he;exact⟨n1,fun n hm=>by simp only[bFs,cR,hL,hn,ha,true_and,if_true,h1 n hm,and_self]⟩
theorem cA {L:bJ}(hL:L f=some lf)(hn:args.length=lf.np)(ha:wR lf args=false)
  (h:Wp L lf.body ⟨fun i=>args.getD i (.tup []),en,cnt⟩ fun e st=>match e with| .panic v=>Q v st.en st.cnt|_=>False):wF L f args en cnt Q:=by
 obtain⟨e,st,⟨n1,h1⟩,he⟩:=aEj _ h;cases e with
 |panic v=>exact⟨v,st.en,st.cnt,⟨n1,fun n hm fr=>by simp only[eD,hL,hn,ha,true_and,if_true,h1 n hm,and_self]⟩,he⟩
 |_=>exact he.elim
variable {dst:Option Nat}
theorem sZ {L:bJ}{b:List Val}{c:bB}{e:Ex}{st3:St}{K:St->Prop}(hL:L g=some lf)(hb:lf.body= .rcv dst l c)(hv:e.rcvd=some v)(hn:(a++args++b).length=lf.np)(hr:lf.res=[])
  (h:iW L l ⟨hZ (fun i=>(a++args++b).getD i (.tup [])) dst v,st3.en,st3.cnt⟩ fun st1=>Wp L c st1 fun e' st'=>e'.ends=true/\ K ⟨st3.fr,st'.en,st'.cnt⟩):
  ∃st4,(∃n0,∀n,n0<=n->iB L (exec L n) (.fn g a b) args e st3=some st4)/\ K st4:=by
 obtain⟨st1,⟨n0,h0⟩,h1⟩:=aAh l h;obtain⟨e',st',⟨n1,h2⟩,he,hk⟩:=aEj c h1
 refine⟨_,⟨max n0 n1,fun n hm=>?_⟩,hk⟩
 have hr':=h0 n (by omega)
 simp only[lC]at hr';simp only[iB,hL,hb,hv,hn,hr,List.isEmpty_nil,and_self,if_true,hr',h2 n (by omega),he]
theorem bGh {L:bJ}{n:Nat}(h:lC L n f args=some r):PC L f args r:=⟨n,fun _ hm=>aAe hm h⟩
variable {e:Option Ent}{g' n' t t' off size id:Nat}{u:Key->Bool}{ws:List W}{r':Option Res}{c:Opd}{z a' xs vs ys:List Val}{b b' ok:Bool}{no yes:Prop}{v' f':Val}{K:Val->List Key->Prop}{ks:List Key}{k:IntKind}{s:ByteArray}
section
variable {L :bJ}{Q:St->Prop}
@[go_sem] theorem g_t {i:Nat}:St.get fr (.t i)=fr i:=(rfl)
@[go_sem] theorem g_c :St.get fr (.c v)=v:=(rfl)
@[go_sem] theorem g_f {i:Nat}:St.get fr (.f i)= .fn i [] []:=(rfl)
@[go_sem] theorem bNo :iR fr d v d=v:=by simp[iR]
@[go_sem] theorem bNp {i:Nat}(h: ¬i=d):iR fr d v i=fr i:=by simp[iR,h]
@[go_sem] theorem bIc :hZ fr (some d) v=iR fr d v:=(rfl)
@[go_sem] theorem bId :hZ fr none v=fr:=(rfl)
@[go_sem] theorem cH {k:Key}:En.set en k e k=e:=by simp[En.set]
theorem pZ {k k':Key}(h:k'≠k):En.set en k e k'=en k':=by simp[En.set,h]
@[go_sem] theorem bJv {n:Nat}(h: ¬t'=t):En.set en ⟨n,t,g⟩ e ⟨n',t',g'⟩=en ⟨n',t',g'⟩:=
 pZ fun he=>h (by injection he)
@[go_sem] theorem aV6 {n:Nat}(h: ¬g'=g):En.set en ⟨n,t,g⟩ e ⟨n',t',g'⟩=en ⟨n',t',g'⟩:=
 pZ fun he=>h (by injection he)
@[go_sem] theorem aZ9 {n x:Nat}:aC cnt n t x n t=x:=by simp[aC]
@[go_sem] theorem bAa {n x:Nat}(h: ¬t'=t):aC cnt n t x n t'=cnt n t':=by simp[aC,h]
@[go_sem] theorem bNq (st:St):iW L [] st Q=Q st:=(rfl)
def LOp.plain :LOp->Bool
 | .call _ _| .icall _ _=>false
 |_=>true
def aL5 (L:bJ)(l:List aM)(dst:Option Nat)(fr:Nat->Val)(en:En)(cnt:Nat->Nat->Nat)(Q:St->Prop):Option Res->Prop
 |some r=>(r.bump&&dst.isNone)=false/\ iW L l ⟨hZ fr dst r.v,W.applyAll en r.ws,if r.bump then aC cnt 0 (dst.getD 0) (cnt 0 (dst.getD 0)+1)else cnt⟩ Q
 |none=>False
@[go_sem] theorem aM5 {rs:List R}{m:Option (En×(Nat->Nat->Nat))}:
  aL5 L l dst fr en cnt Q (some ⟨v,ws,rs,false,m,u⟩)=iW L l ⟨hZ fr dst v,W.applyAll en ws,cnt⟩ Q:=by simp[aL5]
@[go_sem] theorem aGd {rs:List R}{m:Option (En×(Nat->Nat->Nat))}:
  aL5 L l (some d) fr en cnt Q (some ⟨v,ws,rs,true,m,u⟩)=iW L l ⟨iR fr d v,W.applyAll en ws,aC cnt 0 d (cnt 0 d+1)⟩ Q:=by simp[aL5,hZ]
@[congr] theorem bGi {r:Option Res}(h:r=r'):aL5 L l dst fr en cnt Q r=aL5 L l dst fr en cnt Q r':=by rw[h]
theorem aRh (h:op.plain=true):iW L (⟨dst,op,none⟩::l) ⟨fr,en,cnt⟩ Q=
  aL5 L l dst fr en cnt Q (dE (dst.getD 0) (cnt 0 (dst.getD 0)) en (St.get fr) op):=by
 cases op<;>first|(simp[LOp.plain]at h;done)|rfl|(simp only[iW,oF,wanted,WOp];rfl)
@[go_sem] theorem bLm (h:op.plain=true):iW L (⟨some d,op,none⟩::l) ⟨fr,en,cnt⟩ Q=
  aL5 L l (some d) fr en cnt Q (dE d (cnt 0 d) en (St.get fr) op):=aRh h
@[go_sem] theorem bLn (h:op.plain=true):iW L (⟨none,op,none⟩::l) ⟨fr,en,cnt⟩ Q=
  aL5 L l none fr en cnt Q (dE 0 (cnt 0 0) en (St.get fr) op):=aRh h
@[go_sem] theorem bNr {x:Opd}:LOp.plain (.mv x)=true:=(rfl)
@[go_sem] theorem bJw {a b:Opd}:LOp.plain (.pick a b c)=true:=(rfl)
@[go_sem] theorem bIe :LOp.plain (.alloc z)=true:=(rfl)
@[go_sem] theorem bLo {n:Nat}{x:Opd}:LOp.plain (.box n x)=true:=(rfl)
@[go_sem] theorem bIf {p:List (Nat×Nat×Opd)}:LOp.plain (.build z p)=true:=(rfl)
@[go_sem] theorem bHi {a b:Nat}{p:List (Nat×Opd)}:LOp.plain (.bslice a b z p)=true:=(rfl)
@[go_sem] theorem bJx {a:Bool}{n:Nat}{x:Opd}:LOp.plain (.load a n x)=true:=(rfl)
@[go_sem] theorem bIg {n:Nat}{x y:Opd}:LOp.plain (.store n x y)=true:=(rfl)
@[go_sem] theorem bIh {x:Opd}:LOp.plain (.nilck x)=true:=(rfl)
@[go_sem] theorem bLp {b:BinOp}{t:EqT}{x y:Opd}:LOp.plain (.bin b t x y)=true:=(rfl)
@[go_sem] theorem bNs {u:UnOp}{x:Opd}:LOp.plain (.un u x)=true:=(rfl)
@[go_sem] theorem bIi {x:Opd}:LOp.plain (.iface t x)=true:=(rfl)
@[go_sem] theorem bHj {z:Val}{x:Opd}:LOp.plain (.assert t z b x)=true:=(rfl)
@[go_sem] theorem bJy {a b:List Opd}:LOp.plain (.mkfn f a b)=true:=(rfl)
@[go_sem] theorem bIj  :LOp.plain (.mkmap)=true:=(rfl)
@[go_sem] theorem bJz {t:EqT}{a b:Opd}:LOp.plain (.mput t a b c)=true:=(rfl)
@[go_sem] theorem bJ0 {t:EqT}{z:Val}{x y:Opd}:LOp.plain (.mget t z b x y)=true:=(rfl)
@[go_sem] theorem bIk {n:Nat}{x y:Opd}:LOp.plain (.mklen n z x y)=true:=(rfl)
@[go_sem] theorem bIl {n:Nat}{x:Opd}{l h m:Option Opd}:LOp.plain (.slice b n x l h m)=true:=(rfl)
@[go_sem] theorem bNt {n:Nat}{x:Opd}:LOp.plain (.fa n x)=true:=(rfl)
@[go_sem] theorem bLq {n:Nat}{x:Opd}:LOp.plain (.fld b n m x)=true:=(rfl)
@[go_sem] theorem bNu {n:Nat}{x y:Opd}:LOp.plain (.ia n x y)=true:=(rfl)
@[go_sem] theorem bLr {x y:Opd}:LOp.plain (.ixs x y)=true:=(rfl)
@[go_sem] theorem bLs {n:Nat}{x y:Opd}:LOp.plain (.ixa b n m x y)=true:=(rfl)
@[go_sem] theorem bLt {n:Nat}{x:Opd}:LOp.plain (.ext n x)=true:=(rfl)
@[go_sem] theorem bLu {t:EqT}{x:Opd}:LOp.plain (.len t x)=true:=(rfl)
theorem bT {n:Nat}{x y:Opd}:LOp.plain (.append n x y)=true:=(rfl)
@[go_sem] theorem bHk {l:List Opd}:LOp.plain (.minmax b l)=true:=(rfl)
@[go_sem] theorem bLv {x:Opd}:LOp.plain (.rng x)=true:=(rfl)
@[go_sem] theorem bLw {x:Opd}:LOp.plain (.nxt x)=true:=(rfl)
def qZ (v:Val)(b:Bool)(yes no:Prop):Prop:=
 match v with
 | .bool b'=>if(b'==b)=true then yes else no
 | .tup []=>no
 |_=>False
@[congr] theorem bE0 (h:v=v'):qZ v b yes no=qZ v' b yes no:=by rw[h]
@[go_sem] theorem bDa :iW L (⟨dst,op,some (t,b)⟩::l) ⟨fr,en,cnt⟩ Q=
  qZ (fr t) b (iW L (⟨dst,op,none⟩::l) ⟨fr,en,cnt⟩ Q) (iW L l ⟨hZ fr dst (.tup []),en,cnt⟩ Q):=by
 simp only[iW,oF,wanted,qZ]
 split<;>rename_i h
 ·split at h
  ·rename_i b' hb;simp only[bOw]at h;simp only[hb,h,if_true]
  ·cases h
  ·cases h
 ·split at h
  ·rename_i b' hb;simp only[bOw]at h;simp only[hb,h,bO0,if_false]
  ·rename_i hb;simp only[hb]
  ·cases h
 ·split at h
  ·cases h
  ·cases h
  ·rename_i h1 h2;split
   ·rename_i b' hb;exact absurd hb (h1 _)
   ·rename_i hb;exact absurd hb h2
   ·rfl
@[go_sem] theorem bIm :qZ (.bool true) true yes no=yes:=(rfl)
@[go_sem] theorem bIn :qZ (.bool false) false yes no=yes:=(rfl)
@[go_sem] theorem bIo :qZ (.bool true) false yes no=no:=(rfl)
@[go_sem] theorem bIp :qZ (.bool false) true yes no=no:=(rfl)
theorem bG (h:b=b'->yes)(k:b=!b'->no):qZ (.bool b) b' yes no:=by
 cases b<;>cases b'<;>first|exact h rfl|exact k rfl
@[congr] theorem bHl {f:Val}{K:Val->En->(Nat->Nat->Nat)->Prop}(h:f=f')(h':a=a'):WIn L f a en cnt K=WIn L f' a' en cnt K:=by rw[h,h']
@[go_sem] theorem bJ1 {f:Opd}{args:List Opd}:iW L (⟨dst,.icall f args,none⟩::l) ⟨fr,en,cnt⟩ Q=
  WIn L (St.get fr f) (args.map (St.get fr)) en cnt fun v en' cnt'=>iW L l ⟨hZ fr dst v,en',cnt'⟩ Q:=(rfl)
def aRi (L:bJ)(f:Nat)(args:List Val)(K:Val->Prop):Prop:= ∃r,PC L f args r/\ K r
@[congr] theorem bGj {K:Val->Prop}(h:a=a'):aRi L f a K=aRi L f a' K:=by rw[h]
theorem _root_.Go.Abs.PC.ret {L:bJ}(h:PC L f args r){K:Val->Prop}:aRi L f args K=K r:=
 propext ⟨fun⟨s,h1,h2⟩=>h.det h1▸h2,fun h2=>⟨r,h,h2⟩⟩
def aHd (L:bJ)(f:Nat)(o:Option (List (Val×List Key)))(K:Val->List Key->Prop):Prop:=
 match o with
 |some rs=>aRi L f (rs.map (·.1.wk1)) fun r=>K r (rs.flatMap (·.2))
 |none=>False
@[congr] theorem bE1 {o o':Option (List (Val×List Key))}(h:o=o'):aHd L f o K=aHd L f o' K:=by rw[h]
@[go_sem] theorem bNv {rs:List (Val×List Key)}:aHd L f (some rs) K=aRi L f (rs.map (·.1.wk1)) fun r=>K r (rs.flatMap (·.2)):=(rfl)
def aCk (L:bJ)(en:En)(f:Val)(args:List Val)(K:Val->List Key->Prop):Prop:=
 match f with
 | .fn f a b=>aHd L f (cU (snapD 8 en) (a++args++b)) K
 |_=>False
@[congr] theorem bE2 {f:Val}(h:f=f')(h':a=a'):aCk L en f a K=aCk L en f' a' K:=by rw[h,h']
@[go_sem] theorem bLx {f:Opd}{args:List Opd}:iW L (⟨dst,.call f args,none⟩::l) ⟨fr,en,cnt⟩ Q=
  aCk L en (St.get fr f) (args.map (St.get fr)) fun r ks=>aL5 L l dst fr en cnt Q (some (gS 0 (dst.getD 0) (cnt 0 (dst.getD 0)) r ks)):=by
 simp only[iW,oF,wanted,WOp,aCk,aHd,aRi];cases St.get fr f<;>first|rfl|skip
@[go_sem] theorem bNw {b:List Val}:aCk L en (.fn f a b) args K=aHd L f (cU (snapD 8 en) (a++args++b)) K:=(rfl)
def oX :Val->Bool
 | .own _ _=>true
 |_=>false
@[go_sem] theorem bE3 {sz:Nat}:gS me d g (.own sz xs) ks=
  {v:= .bl ⟨me,d,g⟩ 0 xs.length,ws:=(if xs.all Val.flat1 then []else ks.map .frz)++[.ent ⟨me,d,g⟩ (some (.blk sz xs false))],rs:=ks.map .val,bump:=true}:=(rfl)
@[go_sem] theorem aRj (h:oX v=false):gS me d g v ks={v,ws:=if v.flat then []else ks.map .frz,rs:=ks.map .val}:=by
 cases v<;>first|rfl|cases h
section
variable {i:Int}{x:ByteArray}
@[go_sem] theorem bLy :oX (.int k i)=false:=(rfl)
@[go_sem] theorem bJ2 :oX (.bool b)=false:=(rfl)
@[go_sem] theorem bLz :oX (.str x)=false:=(rfl)
@[go_sem] theorem bNx :oX (.fz xs)=false:=(rfl)
@[go_sem] theorem bNy :oX (.cl xs)=false:=(rfl)
@[go_sem] theorem bL0 :oX (.agg xs)=false:=(rfl)
@[go_sem] theorem bL1 :oX (.tup xs)=false:=(rfl)
@[go_sem] theorem bNz :oX (.fp xs m)=false:=(rfl)
@[go_sem] theorem bN0 :oX (.fn m xs ys)=false:=(rfl)
@[go_sem] theorem bJ3 :oX .nili=false:=(rfl)
@[go_sem] theorem bL2 :oX (.ifc m v)=false:=(rfl)
end
@[go_sem] theorem aEk {α β:Type}{f:α->Option β}:cU f []=some []:=(rfl)
@[go_sem] theorem aBy {α β:Type}{f:α->Option β}{x:α}{xs:List α}:cU f (x::xs)=(match f x with|some y=>(match cU f xs with|some ys=>some (y::ys)|none=>none)|none=>none):=(rfl)
@[go_sem] theorem bHm {cs:List Val}:iM true cs=some (.agg cs):=(rfl)
@[go_sem] theorem bHn :iM false [v]=some v:=(rfl)
attribute [go_sem] o og on ong
def yH (cs:List Val)(off:Nat):Option Val:=cs[off]?
@[go_sem] theorem bIq {cs:List Val}:yH (v::cs) 0=some v:=(rfl)
@[go_sem] theorem bIr {cs:List Val}{n:Nat}:yH (v::cs) (n+1)=yH cs n:=(rfl)
section
@[go_sem] theorem bN1 {x:Opd}:dE d g en get (.mv x)=some {v:=get x}:=(rfl)
def aOz (c a b:Val):Option Res:=match c with| .bool t=>some {v:=if t then a else b}|_=>none
@[go_sem] theorem bJ4 {a b:Opd}:dE d g en get (.pick c a b)=aOz (get c) (get a) (get b):=(rfl)
@[go_sem] theorem bL3 {a b:Val}:aOz (.bool true) a b=some {v:=a}:=(rfl)
@[go_sem] theorem bL4 {a b:Val}:aOz (.bool false) a b=some {v:=b}:=(rfl)
@[go_sem] theorem bL5 {t a:Bool}:aOz (.bool t) (.bool a) (.bool b)=some {v:= .bool (if t then a else b)}:=by cases t<;>rfl
@[go_sem] theorem bIs :dE d g en get (.alloc z)=some {v:= .ptr ⟨0,d,g⟩ 0,ws:=[.ent ⟨0,d,g⟩ (some (.box z false))],bump:=true}:=(rfl)
def aAj (d g m:Nat)(x:Val):Option Res:=if x.one=true/\ x.cells.length=m then some {v:= .ptr ⟨0,d,g⟩ 0,ws:=[.ent ⟨0,d,g⟩ (some (.box x.cells false))],bump:=true}else none
@[go_sem] theorem bL6 {x:Opd}:dE d g en get (.box m x)=aAj d g m (get x):=(rfl)
@[go_sem] theorem bJ5 {cs:List Val}(h:cs.length=m):aAj d g m (.agg cs)=some {v:= .ptr ⟨0,d,g⟩ 0,ws:=[.ent ⟨0,d,g⟩ (some (.box cs false))],bump:=true}:=by simp[aAj,Val.one,Val.cells,h]
@[go_sem] theorem bJ6 {n:Int}:aAj d g 1 (.int k n)=some {v:= .ptr ⟨0,d,g⟩ 0,ws:=[.ent ⟨0,d,g⟩ (some (.box [.int k n] false))],bump:=true}:=by simp[aAj,Val.one,Val.cells]
@[go_sem] theorem bL7 {i:Nat}:aAj d g 1 (.fp xs i)=some {v:= .ptr ⟨0,d,g⟩ 0,ws:=[.ent ⟨0,d,g⟩ (some (.box [.fp xs i] false))],bump:=true}:=by simp[aAj,Val.one,Val.cells]
@[go_sem] theorem bL8 {b:List Val}:aAj d g 1 (.fn f a b)=some {v:= .ptr ⟨0,d,g⟩ 0,ws:=[.ent ⟨0,d,g⟩ (some (.box [.fn f a b] false))],bump:=true}:=by simp[aAj,Val.one,Val.cells]
@[go_sem] theorem bIt {ps:List (Nat×Nat×Opd)}:dE d g en get (.build z ps)=(sC z (ps.map fun p=>(p.1,p.2.1,get p.2.2))).map fun cs=>{v:= .agg cs}:=(rfl)
@[go_sem] theorem bJ7 {agg:Bool}{a:Opd}:dE d g en get (.load agg m a)=(match sB en (get a) m with|some (cs,rs)=>(iM agg cs).map fun v=>{v,rs}|none=>none):=(rfl)
@[go_sem] theorem bL9 {op:BinOp}{t:EqT}{x y:Opd}:dE d g en get (.bin op t x y)=(dN op t (get x) (get y)).map fun v=>{v}:=(rfl)
def bAb (x:Val):Option Res:=match x with| .bool b=>some {v:= .bool !b}|_=>none
def bAc (x:Val):Option Res:=match x with| .int k a=>some {v:= .int k (k.wrap (0-a))}|_=>none
@[go_sem] theorem bMa {x:Opd}:dE d g en get (.un .not x)=bAb (get x):=by
 simp only[dE,eval,bAb];cases get x<;>rfl
@[go_sem] theorem bMb {x:Opd}:dE d g en get (.un .neg x)=bAc (get x):=by
 simp only[dE,eval,bAc];cases get x<;>rfl
@[go_sem] theorem bN2 :bAb (.bool b)=some {v:= .bool !b}:=(rfl)
@[go_sem] theorem bN3 {a:Int}:bAc (.int k a)=some {v:= .int k (k.wrap (0-a))}:=(rfl)
@[go_sem] theorem bIu {x:Opd}:dE d g en get (.iface t x)=if(get x).one=true then some {v:= .ifc t (get x)}else none:=(rfl)
def aJw (t:Nat)(z:Val)(ok:Bool)(x:Val):Option Res:=match x with
 | .ifc t' v=>if t'=t then some {v:=if ok then .tup [v,.bool true]else v}else if ok then some {v:= .tup [z,.bool false]}else none
 | .nili=>if ok then some {v:= .tup [z,.bool false]}else none
 |_=>none
@[go_sem] theorem bHo {z:Val}{x:Opd}:dE d g en get (.assert t z ok x)=aJw t z ok (get x):=(rfl)
@[go_sem] theorem bGk {z:Val}:aJw t z true (.ifc t' v)=some {v:=if t'=t then .tup [v,.bool true]else .tup [z,.bool false]}:=by
 simp only[aJw];split<;>simp
@[go_sem] theorem bJ8 {a b:List Opd}:dE d g en get (.mkfn f a b)=some {v:= .fn f (a.map get) (b.map get)}:=(rfl)
@[go_sem] theorem bIv :dE d g en get .mkmap=some {v:= .mp ⟨0,d,g⟩,ws:=[.ent ⟨0,d,g⟩ (some (.map [] [] false))],bump:=true}:=(rfl)
def aRk (t:EqT)(en:En)(x:Val):Option Res:=match t with
  | .map=>match x with
   | .mp key=>match en key with
    |some (.map ks _ _)=>some {v:= .int .i64 ks.length,rs:=[.val key]}
    |_=>none
   | .fm ks _=>some {v:= .int .i64 ks.length}
   | .nilm=>some {v:= .int .i64 0}
   |_=>none
  | .str=>match x with
   | .str s=>some {v:= .int .i64 s.size}
   |_=>none
  | .slice=>(sI x).map fun m=>{v:= .int .i64 m}
  | .func=>match x with
   | .cl xs=>some {v:= .int .i64 xs.length}
   |_=>none
  |_=>none
@[go_sem] theorem bMc {t:EqT}{x:Opd}:dE d g en get (.len t x)=aRk t en (get x):=(rfl)
@[go_sem] theorem bN4 {x:Val}:aRk .slice en x=(sI x).map fun(m:Nat)=>{v:= .int .i64 (m:Int)}:=by simp only[aRk];cases sI x<;>rfl
@[go_sem] theorem bJ9 :aRk .str en (.str s)=some {v:= .int .i64 s.size}:=(rfl)
@[go_sem] theorem bIw :sI (.fz xs)=some xs.length:=(rfl)
@[go_sem] theorem bIx :sI (.cl xs)=some xs.length:=(rfl)
@[go_sem] theorem bIy {k:Key}{o n:Nat}:sI (.bl k o n)=some n:=(rfl)
def bE4 (i:Nat)(x:Val):Option Res:=match x with| .tup vs=>(vs[i]?).map fun v=>{v}|_=>none
@[go_sem] theorem bMd {i:Nat}{x:Opd}:dE d g en get (.ext i x)=bE4 i (get x):=(rfl)
@[go_sem] theorem bKa {i:Nat}:bE4 i (.tup vs)=(yH vs i).map fun v=>{v}:=(rfl)
def bDb (off:Nat)(x:Val):Option Res:=match x with
  | .fp cs o=>some {v:= .fp cs (o+off)}
  | .ptr k o=>some {v:= .ptr k (o+off)}
  | .ep k i o=>some {v:= .ep k i (o+off)}
  |_=>none
@[go_sem] theorem bN5 {x:Opd}:dE d g en get (.fa off x)=bDb off (get x):=(rfl)
@[go_sem] theorem bN6 {o:Nat}{cs:List Val}:bDb off (.fp cs o)=some {v:= .fp cs (o+off)}:=(rfl)
@[go_sem] theorem bMe {o:Nat}{k:Key}:bDb off (.ptr k o)=some {v:= .ptr k (o+off)}:=(rfl)
@[go_sem] theorem bN7 {o i:Nat}{k:Key}:bDb off (.ep k i o)=some {v:= .ep k i (o+off)}:=(rfl)
def nO (size:Nat)(en:En)(x i:Val):Option Res:=match i with
  | .int _ j=>
   match x with
   | .fz xs| .cl xs=>if 0<=j then match xs[j.toNat]? with
     |some y=>if y.cells.length=size then some {v:= .fp y.cells 0}else none
     |none=>none else none
   | .bl k off len=>match en k with
    |some (.blk sz _ _)=>if 0<=j/\ j<len/\ sz=size then some {v:= .ep k (off+j.toNat) 0,rs:=[.val k]}else none
    |_=>none
   |_=>none
  |_=>none
@[go_sem] theorem bN8 {x i:Opd}:dE d g en get (.ia size x i)=nO size en (get x) (get i):=by
 simp only[dE,eval,nO];cases get i<;>rfl
theorem bIz {y:Val}(h:xs[j]?=some y)(hs:y.cells.length=size):nO size en (.fz xs) (.int k j)=some {v:= .fp y.cells 0}:=by
 simp[nO,h,hs]
@[go_sem] theorem aUo {α:Type}{f:α->Val}{l:List α}(h:j<l.length)(hs:((f l[j]).cells.length==size)=true):nO size en (.fz (l.map f)) (.int k j)=some {v:= .fp (f l[j]).cells 0}:=
 bIz (by simp[h]) (by simpa using hs)
@[go_sem] theorem bHp {len:Nat}{ps:List (Nat×Opd)}:dE d g en get (.bslice len size z ps)=
  if len*size<=16777216 then
   match cU (fun p=>match snapD 8 en (get p.2)with|some r=>some ((p.1,r.1.wk1),r.2)|none=>none) ps with
   |some ps=>match dZ (List.replicate len (jM size z false)) size (ps.map (·.1))with
    |some xs=>some {v:= .cl xs,ws:=(ps.flatMap (·.2)).map .frz,rs:=(ps.flatMap (·.2)).map .val}
    |none=>none
   |none=>none
  else none:=(rfl)
def aAk (mx:Bool)(xs:List Val):Option Res:=match xs with
  |[.int j a,.int k b]=>if j=k then some {v:= .int j (if mx then(if b>a then b else a)else(if b<a then b else a))}else none
  |_=>none
@[go_sem] theorem bHq {mx:Bool}{xs:List Opd}:dE d g en get (.minmax mx xs)=aAk mx (xs.map get):=(rfl)
@[go_sem] theorem bN9 {a b:Int}:aAk true [.int k a,.int k b]=some {v:= .int k (max a b)}:=by
 simp only[aAk,if_true,bOw,Res.mk.injEq,Val.int.injEq,true_and,and_true];omega
@[go_sem] theorem bOa {a b:Int}:aAk false [.int k a,.int k b]=some {v:= .int k (min a b)}:=by
 simp only[aAk,if_true,bO0,if_false,bOw,Res.mk.injEq,Val.int.injEq,true_and,and_true];omega
def aO0 (x:Val):Option Res:=match x with
  | .fp cs off=>some {v:= .fp cs off}
  | .ptr k off=>some {v:= .ptr k off}
  | .ep k i off=>some {v:= .ep k i off}
  | .fn f a b=>some {v:= .fn f a b}
  | .ifc t v=>some {v:= .ifc t v}
  |_=>none
@[go_sem] theorem bI0 {x:Opd}:dE d g en get (.nilck x)=aO0 (get x):=(rfl)
@[go_sem] theorem bI1 {cs:List Val}{o:Nat}:aO0 (.fp cs o)=some {v:= .fp cs o}:=(rfl)
@[go_sem] theorem bHr {k:Key}{o:Nat}:aO0 (.ptr k o)=some {v:= .ptr k o}:=(rfl)
end
@[go_sem] theorem bHs :dZ xs size []=some xs:=(rfl)
@[go_sem] theorem bGl {i:Nat}{jE:List (Nat×Val)}(h1:v.one=true)(h2:v.cells.length=size)(h3:i<xs.length):dZ xs size ((i,v)::jE)=dZ (xs.set i v) size jE:=by
 simp only[dZ,h1,h2,h3,and_self,if_true]
@[go_sem] theorem bOb {z:Val}:List.replicate 0 z=[]:=(rfl)
@[go_sem] theorem bOc {z:Val}:List.replicate 1 z=[z]:=(rfl)
@[go_sem] theorem bOd {z:Val}:List.replicate 4 z=[z,z,z,z]:=(rfl)
@[go_sem] theorem bI2 {cs:List Val}:sC cs []=some cs:=(rfl)
@[go_sem] theorem bHt {cs:List Val}{jE:List (Nat×Nat×Val)}(h1:v.one=true)(h2:v.cells.length=size)(h3:off+size<=cs.length):sC cs ((off,size,v)::jE)=sC (setCells cs off v.cells) jE:=by
 simp only[sC,h1,h2,h3,and_self,if_true]
@[go_sem] theorem bKb {cs:List Val}:setCells cs off []=cs:=(rfl)
@[go_sem] theorem bI3 {cs:List Val}:setCells cs off (v::vs)=setCells (cs.set off v) (off+1) vs:=(rfl)
attribute [go_sem] bQw bQx
@[go_sem] theorem bMf {j:Int}:nO size en (.cl xs) (.int k j)=if 0<=j then(match yH xs j.toNat with|some y=>if y.cells.length=size then some {v:= .fp y.cells 0}else none|none=>none)else none:=(rfl)
section
variable {a b:Int}
@[go_sem] theorem bKc :dN .add .num (.int k a) (.int k b)=some (.int k (k.wrap (a+b))):=by simp[dN,tJ]
@[go_sem] theorem bKd :dN .sub .num (.int k a) (.int k b)=some (.int k (k.wrap (a-b))):=by simp[dN,tJ]
@[go_sem] theorem bKe :dN .mul .num (.int k a) (.int k b)=some (.int k (k.wrap (a*b))):=by simp[dN,tJ]
@[go_sem] theorem bKf :dN .quo .num (.int k a) (.int k b)=if b=0 then none else some (.int k (k.wrap (a.tdiv b))):=by simp[dN,tJ]
@[go_sem] theorem bKg :dN .rem .num (.int k a) (.int k b)=if b=0 then none else some (.int k (a.tmod b)):=by simp[dN,tJ]
@[go_sem] theorem bKh :dN .lss .num (.int k a) (.int k b)=some (.bool (decide (a<b))):=by simp[dN,tJ]
@[go_sem] theorem bKi :dN .leq .num (.int k a) (.int k b)=some (.bool (decide (a<=b))):=by simp[dN,tJ]
@[go_sem] theorem bKj :dN .gtr .num (.int k a) (.int k b)=some (.bool (decide (b<a))):=by simp[dN,tJ]
@[go_sem] theorem bKk :dN .geq .num (.int k a) (.int k b)=some (.bool (decide (b<=a))):=by simp[dN,tJ]
@[go_sem] theorem bKl :dN .eql .num (.int k a) (.int k b)=some (.bool (decide (a=b))):=by
 simp only[dN,pP,if_true,bPq];congr 2
@[go_sem] theorem bKm :dN .neq .num (.int k a) (.int k b)=some (.bool (!decide (a=b))):=by
 simp only[dN,pP,if_true,bPq];congr 3
@[go_sem] theorem bKn {x y:ByteArray}:dN .eql .str (.str x) (.str y)=some (.bool (x.toList==y.toList)):=(rfl)
@[go_sem] theorem bKo {x y:ByteArray}:dN .neq .str (.str x) (.str y)=some (.bool (!(x.toList==y.toList))):=(rfl)
end
@[go_sem] theorem fL :W.applyAll en []=en:=(rfl)
@[go_sem] theorem kH {w:W}:W.applyAll en (w::ws)=W.applyAll (w.apply en) ws:=(rfl)
@[go_sem] theorem xC {k:Key}:(W.ent k e).apply en=en.set k e:=(rfl)
@[go_sem] theorem bI4 {k:Key}{n:Nat}:sB en (.ptr k off) n=(match en k with|some (.box cs _)=>if off+n<=cs.length then some ((cs.drop off).take n,[.cells k off n])else none|_=>none):=(rfl)
@[go_sem] theorem bKp {cs:List Val}{n:Nat}:sB en (.fp cs off) n=if off+n<=cs.length then some ((cs.drop off).take n,[])else none:=(rfl)
@[go_sem] theorem bDc {α β:Type}{f:α->β}{x:α}:(some x).map f=some (f x):=(rfl)
@[go_sem] theorem bDd {β:Type}{f:α->β}:(none:Option α).map f=none:=(rfl)
attribute [go_sem] bQ6 List.drop_succ_cons bO3 bO5 bO7 bPe List.take_nil List.drop_nil
section
variable {R:Ex->St->Prop}
@[go_sem] theorem bI5 {c:bB}:Wp L c (start args) R=Wp L c ⟨fun i=>args.getD i (.tup []),fun _=>none,fun _ _=>0⟩ R:=(rfl)
@[go_sem] theorem bKq :Wp L .skip st R=R .normal st:=(rfl)
@[go_sem] theorem bMg :Wp L (.ops l) st R=iW L l st (R .normal):=(rfl)
@[go_sem] theorem bKr :Wp L (.draw l []) st R=iW L l st (R .normal):=by simp[Wp]
theorem qW {a b:bB}:Wp L (.seq a b) st R=Wp L a st fun e st'=>match e with
  | .normal=>Wp L b st' R
  | .exit i=>R (.exit i) st'
  | .ret=>R .ret st'
  | .panic v=>R (.panic v) st':=(rfl)
def aJx (v:Val)(a b:Prop):Prop:=match v with| .bool t=>if t=true then a else b|_=>False
@[go_sem] theorem bKs {x:Opd}{a b:bB}:Wp L (.cond x a b) ⟨fr,en,cnt⟩ R=aJx (St.get fr x) (Wp L a ⟨fr,en,cnt⟩ R) (Wp L b ⟨fr,en,cnt⟩ R):=(rfl)
@[congr] theorem bE5 {a b:Prop}(h:v=v'):aJx v a b=aJx v' a b:=by rw[h]
@[go_sem] theorem bKt {a b:Prop}:aJx (.bool true) a b=a:=(rfl)
@[go_sem] theorem bKu {a b:Prop}:aJx (.bool false) a b=b:=(rfl)
theorem aY {t:Bool}{a b:Prop}(h:t=true->a)(k:t=false->b):aJx (.bool t) a b:=by cases t<;>first|exact h rfl|exact k rfl
@[go_sem] theorem bI6 {b:bB}:Wp L (.block id b) st R=Wp L b st fun e st'=>match e with
  | .exit id'=>if id'=id then R .normal st' else R (.exit id') st'
  | .normal=>R .normal st'
  | .ret=>R .ret st'
  | .panic v=>R (.panic v) st':=(rfl)
@[go_sem] theorem bMh :Ex.calm .normal=true:=(rfl)
@[go_sem] theorem bMi :Ex.calm .ret=true:=(rfl)
@[go_sem] theorem bMj :Ex.calm (.exit id)=true:=(rfl)
@[go_sem] theorem bKv :Wp L (.exit id) st R=R (.exit id) st:=(rfl)
@[go_sem] theorem bMk :Wp L .ret st R=R .ret st:=(rfl)
end
attribute [go_sem] Ex.ends bC8 pQ zS aVu and_true bRt List.getD_cons_succ List.getD_nil bPw bPf bPx bP1 bRa bRe bQy
 not_false_eq_true not_true_eq_false ne_eq bPq bQ7 List.all_nil true_and and_true bQ2 bPr bQc bPm if_true if_false bO0 bPd bPh bPs bQh
section
variable {i:Int}{x:ByteArray}
@[go_sem] theorem bMl :Val.wk (.int k i)= .int k i:=(rfl)
@[go_sem] theorem bKw :Val.wk (.bool b)= .bool b:=(rfl)
@[go_sem] theorem bMm :Val.wk (.str x)= .str x:=(rfl)
@[go_sem] theorem bOe :Val.wk (.fz xs)= .fz xs:=(rfl)
@[go_sem] theorem bOf :Val.wk (.cl xs)= .fz xs:=(rfl)
@[go_sem] theorem bOg :Val.wk (.fp xs m)= .fp xs m:=(rfl)
@[go_sem] theorem bOh :Val.wk (.fn m xs ys)= .fn m xs ys:=(rfl)
@[go_sem] theorem bKx :Val.wk .nili= .nili:=(rfl)
@[go_sem] theorem bMn :Val.wk (.ifc m v)= .ifc m v:=(rfl)
@[go_sem] theorem bMo :Val.wk (.agg xs)= .agg (xs.map Val.wk0):=(rfl)
@[go_sem] theorem bMp :Val.wk (.tup xs)= .tup (xs.map Val.wk1):=(rfl)
@[go_sem] theorem bKy :Val.wk1 (.int k i)= .int k i:=(rfl)
@[go_sem] theorem bI7 :Val.wk1 (.bool b)= .bool b:=(rfl)
@[go_sem] theorem bKz :Val.wk1 (.str x)= .str x:=(rfl)
@[go_sem] theorem bMq :Val.wk1 (.fz xs)= .fz xs:=(rfl)
@[go_sem] theorem bMr :Val.wk1 (.cl xs)= .fz xs:=(rfl)
@[go_sem] theorem bMs :Val.wk1 (.fp xs m)= .fp xs m:=(rfl)
@[go_sem] theorem bMt :Val.wk1 (.fn m xs ys)= .fn m xs ys:=(rfl)
@[go_sem] theorem bI8 :Val.wk1 .nilp= .nilp:=(rfl)
@[go_sem] theorem bK0 :Val.wk1 (.ifc m v)= .ifc m v:=(rfl)
@[go_sem] theorem bK1 :Val.wk1 (.agg xs)= .agg (xs.map Val.wk0):=(rfl)
@[go_sem] theorem bK2 :Val.wk0 (.int k i)= .int k i:=(rfl)
@[go_sem] theorem bK3 :Val.wk0 (.str x)= .str x:=(rfl)
@[go_sem] theorem bMu :Val.wk0 (.fz xs)= .fz xs:=(rfl)
@[go_sem] theorem bMv :Val.wk0 (.cl xs)= .fz xs:=(rfl)
@[go_sem] theorem bI9 :Val.flat (.int k i)=true:=(rfl)
@[go_sem] theorem bHu :Val.flat (.bool b)=true:=(rfl)
@[go_sem] theorem bJa :Val.flat (.str x)=true:=(rfl)
@[go_sem] theorem bHv :Val.cells (.agg xs)=xs:=(rfl)
@[go_sem] theorem bHw :Val.cells (.int k i)=[.int k i]:=(rfl)
@[go_sem] theorem bGm :Val.cells (.bool b)=[.bool b]:=(rfl)
@[go_sem] theorem bHx :Val.cells (.str x)=[.str x]:=(rfl)
@[go_sem] theorem bJb :Val.cells (.fz xs)=[.fz xs]:=(rfl)
@[go_sem] theorem bK4 :Val.one (.int k i)=true:=(rfl)
@[go_sem] theorem bJc :Val.one (.bool b)=true:=(rfl)
@[go_sem] theorem bK5 :Val.one (.str x)=true:=(rfl)
@[go_sem] theorem bMw :Val.one (.fz xs)=true:=(rfl)
@[go_sem] theorem qA :Val.one (.cl xs)=true:=(rfl)
@[go_sem] theorem bK6 :Val.one (.agg xs)=true:=(rfl)
end
section
variable {n :Nat}
@[go_sem] theorem bK7 :snapD (n+1) en (.bool b)=some (.bool b,[]):=(rfl)
@[go_sem] theorem bMx {i:Int}:snapD (n+1) en (.int k i)=some (.int k i,[]):=(rfl)
@[go_sem] theorem bMy :snapD (n+1) en (.str s)=some (.str s,[]):=(rfl)
@[go_sem] theorem bK8 :snapD (n+1) en .nilp=some (.nilp,[]):=(rfl)
@[go_sem] theorem bK9 :snapD (n+1) en .nili=some (.nili,[]):=(rfl)
@[go_sem] theorem bOi :snapD (n+1) en (.fz xs)=some (.fz xs,[]):=(rfl)
@[go_sem] theorem bOj :snapD (n+1) en (.cl xs)=some (.cl xs,[]):=(rfl)
@[go_sem] theorem bOk :snapD (n+1) en (.fp xs off)=some (.fp xs off,[]):=(rfl)
@[go_sem] theorem bMz {cs:List Val}:snapD (n+1) en (.agg cs)=(match cU (snapD n en) cs with|some rs=>some (.agg (rs.map (·.1)),rs.flatMap (·.2))|none=>none):=(rfl)
@[go_sem] theorem bM0 {cs:List Val}:snapD (n+1) en (.tup cs)=(match cU (snapD n en) cs with|some rs=>some (.tup (rs.map (·.1)),rs.flatMap (·.2))|none=>none):=(rfl)
@[go_sem] theorem bM1 {k:Key}:snapD (n+1) en (.ptr k off)=(match en k with|some (.box cs _)=>(match cU (snapD n en) cs with|some rs=>some (.fp (rs.map (·.1)) off,k::rs.flatMap (·.2))|none=>none)|_=>none):=(rfl)
@[go_sem] theorem bOl {k:Key}{len:Nat}:snapD (n+1) en (.bl k off len)=(match en k with|some (.blk _ xs _)=>if k.deep=true then none else if off+len<=xs.length then some (.fz ((xs.drop off).take len),[k])else none|_=>none):=(rfl)
@[go_sem] theorem bLa {n:Nat}(h: ¬n=3):Key.deep ⟨n,t,g⟩=false:=by simp[Key.deep,h]
@[go_sem] theorem aJy :Key.deep ⟨0,t,g⟩=false:=(rfl)
end
theorem bQ {L:bJ}{b:bB}{Q:Ex->St->Prop}(n:Nat)(I:Nat->St->Prop)(k0:Nat)(hle:k0<=n)(h0:I k0 st)
  (hr: ∀k st,k<=n->I k st->Wp L b st fun e st'=>match e with
   | .normal=>k<n/\ I (k+1) st'
   | .exit i=>Q (.exit i) st'
   | .ret=>Q .ret st'
   | .panic v=>Q (.panic v) st'):Wp L (.loop b) st Q:=
 wp_loop (fun k st=>k<=n/\ I k st) (fun k=>n-k) k0 ⟨hle,h0⟩ fun k st ⟨hk,hI⟩=>wp_mono b (hr k st hk hI) fun e st' h=>by
  cases e with
  |normal=>exact⟨k+1,⟨by omega,h.2⟩,by omega⟩
  |exit i=>exact h
  |ret=>exact h
  |panic v=>exact h
theorem aW {n:Int}(h: -9223372036854775808<=n/\ n<=9223372036854775807):IntKind.i64.wrap n=n:=IntWalk.i64_in n h
def Few (n:Nat):Prop:=n<=9223372036854775807
@[go_sem] theorem aT {k n:Nat}(h:k<n)(hn:Few n):IntKind.i64.wrap ((k:Int)+1)=((k+1:Nat):Int):=by
 unfold Few at hn;rw[aW (by omega)];rfl
theorem aUp {k:Nat}(h:Few (k+1)):IntKind.i64.wrap ((k:Int)+1)=((k+1:Nat):Int):=by
 unfold Few at h;rw[aW (by omega)];rfl
attribute [go_sem] Int.ofNat_lt Int.ofNat_le Int.ofNat_inj decide_true decide_false bOz
@[go_sem] theorem eq2 {a b c d:Int}:dN .eql (.agg [.num,.num]) (.agg [.int k a,.int k b]) (.agg [.int k c,.int k d])=some (.bool (decide (a=c)&&decide (b=d))):=by
 simp only[dN,pP,bO7,bPe,and_self,if_true,jR,zR];have e:(a==c)=decide (a=c):=by by_cases h:a=c<;>simp[h]
 have e':(b==d)=decide (b=d):=by by_cases h:b=d<;>simp[h]
 rw[e,e']
 by_cases h:a=c<;>by_cases h':b=d<;>simp[h,h']
@[go_sem] theorem ne2 {a b c d:Int}:dN .neq (.agg [.num,.num]) (.agg [.int k a,.int k b]) (.agg [.int k c,.int k d])=some (.bool (!(decide (a=c)&&decide (b=d)))):=by
 simp only[dN,pP,bO7,bPe,and_self,if_true,jR,zR];have e:(a==c)=decide (a=c):=by by_cases h:a=c<;>simp[h]
 have e':(b==d)=decide (b=d):=by by_cases h:b=d<;>simp[h]
 rw[e,e']
 by_cases h:a=c<;>by_cases h':b=d<;>simp[h,h']
end
def aRl (l:List Int):Val:= .fz (l.map (.int .i64))
structure aD where
 kind:Int
 n:Int
 deriving DecidableEq,Inhabited
def aD.enc (v:aD):Val:= .agg [.int .i64 v.kind,.int .i64 v.n]
structure aB where
 node:Int
 env:List aD
 vals:List aD
 deriving DecidableEq,Inhabited
def aB.enc (f:aB):Val:= .agg [.int .i64 f.node,.fz (f.env.map aD.enc),.fz (f.vals.map aD.enc)]
structure aR where
 form:Int
 n:Int
 vals:List aD
 frames:List aB
 deriving DecidableEq,Inhabited
def aR.enc (o:aR):Val:= .agg [.int .i64 o.form,.int .i64 o.n,.fz (o.vals.map aD.enc),.fz (o.frames.map aB.enc)]
structure bR where
 port:Int
 n:Int
 deriving DecidableEq,Inhabited
def bR.enc (o:bR):Val:= .agg [.int .i64 o.port,.int .i64 o.n]
structure aA where
 objs:List aR
 tasks:List Int
 outs:List bR
 ins:List Int
 used:Int
 deriving DecidableEq,Inhabited
def aA.cells (w:aA):List Val:=[.fz (w.objs.map aR.enc),aRl w.tasks,.fz (w.outs.map bR.enc),aRl w.ins,.int .i64 w.used]
structure aJz where
 world:aA
 ages:List Int
 marks:List Int
 cycle:Int
 deriving DecidableEq,Inhabited
def aJz.cells (s:aJz):List Val:=s.world.cells++[aRl s.ages,aRl s.marks,.int .i64 s.cycle]
structure cO where
 name:ByteArray
 args:Int
 deriving DecidableEq,Inhabited
def cO.enc (c:cO):Val:= .agg [.str c.name,.int .i64 c.args]
inductive Pat where
 |mk (form n:Int) (text:ByteArray) (parts:List Pat)
 deriving Inhabited
mutual
def Pat.enc :Pat->Val
 | .mk f n t ps=> .agg [.int .i64 f,.int .i64 n,.str t,.fz (Pat.encL ps)]
def Pat.encL :List Pat->List Val
 |[]=>[]
 |p::ps=>p.enc::Pat.encL ps
end
theorem Pat.encL_map : ∀ps:List Pat,Pat.encL ps=ps.map Pat.enc
 |[]=>rfl
 |p::ps=>by rw[Pat.encL,Pat.encL_map ps];rfl
def Pat.form :Pat->Int| .mk f _ _ _=>f
def Pat.n :Pat->Int| .mk _ n _ _=>n
def Pat.text :Pat->ByteArray| .mk _ _ t _=>t
def Pat.parts :Pat->List Pat| .mk _ _ _ l=>l
theorem Pat.enc_eq (p:Pat):p.enc= .agg [.int .i64 p.form,.int .i64 p.n,.str p.text,.fz (p.parts.map Pat.enc)]:=by
 cases p;simp only[Pat.enc,Pat.encL_map,Pat.form,Pat.n,Pat.text,Pat.parts]
structure aJ where
 op:Int
 n:Int
 kids:List Int
 pats:List Pat
 deriving Inhabited
def aJ.enc (o:aJ):Val:= .agg [.int .i64 o.op,.int .i64 o.n,aRl o.kids,.fz (o.pats.map Pat.enc)]
structure aF where
 nodes:List aJ
 funs:List Int
 main:Int
 cons:List cO
 deriving Inhabited
def aF.cells (p:aF):List Val:=[.fz (p.nodes.map aJ.enc),aRl p.funs,.int .i64 p.main,.fz (p.cons.map cO.enc)]
attribute [go_sem] aD.enc aB.enc aR.enc bR.enc cO.enc aJ.enc Pat.enc_eq aA.cells aF.cells aJz.cells aRl
@[match_pattern] abbrev Val.i (n:Int):Val:= .int .i64 n
abbrev Val.is (l:List Int):Val:= .fz (l.map (.int .i64))
abbrev aA.cs (w:aA):List Val:=[.fz (w.objs.map aR.enc),.is w.tasks,.fz (w.outs.map bR.enc),.is w.ins,.int .i64 w.used]
abbrev aF.cs (p:aF):List Val:=[.fz (p.nodes.map aJ.enc),.is p.funs,.int .i64 p.main,.fz (p.cons.map cO.enc)]
def mZ (L:bJ):List aM->St->(St->Prop)->Prop
 |[],st,Q=>Q st
 |o::l,st,Q=>oF L st o fun st' r=>r.ws=[]/\ r.bump=false/\ r.mem=none/\ mZ L l st' Q
theorem kI {L:bJ}{o:aM}{K K':St->Res->Prop}(h:oF L st o K)(hk: ∀s r,K s r->K' s r):oF L st o K':=by
 have wop: ∀{d g:Nat} {en:En} {get:Opd->Val} {op:LOp} {K K':Res->Prop},WOp L d g en get op K->(∀r,K r->K' r)->WOp L d g en get op K':=by
  intro d g en get op K K' h hk;have oth:(match dE d g en get op with|some r=>K r|none=>False)->(match dE d g en get op with|some r=>K' r|none=>False):=by
   intro h;split<;>rename_i hr<;>simp only[hr]at h;exact hk _ h
  cases op with
  |call f args=>
   simp only[WOp]at h⊢
   split at h
   ·split at h
    ·obtain⟨r,h1,h2⟩:=h;exact⟨r,h1,hk _ h2⟩
    ·exact h.elim
   ·exact h.elim
  |_=>exact oth h
 unfold oF at h⊢;split
 ·rename_i hw;simp only[hw]at h;split
  ·rename_i f args hop;simp only[hop]at h;exact h.mono fun _ _ _=>hk _ _
  ·rename_i op hne;have h':WOp L (o.dst.getD 0) (st.cnt 0 (o.dst.getD 0)) st.en (St.get st.fr) o.op fun r=>(r.bump&&o.dst.isNone)=false/\
     K ⟨hZ st.fr o.dst r.v,W.applyAll st.en r.ws,if r.bump then aC st.cnt 0 (o.dst.getD 0) (st.cnt 0 (o.dst.getD 0)+1)else st.cnt⟩ r:=by
    split at h
    ·rename_i f a hx;exact absurd hx (hne f a)
    ·exact h
   exact wop h' fun r ⟨h1,h2⟩=>⟨h1,hk _ _ h2⟩
 ·rename_i hw;simp only[hw]at h;exact hk _ _ h
 ·rename_i hw;simp only[hw]at h
def bAd (rs:List Res):Prop:= ∀r∈rs,r.ws=[]/\ r.bump=false/\ r.mem=none
theorem aM6 {L:bJ}: ∀(l:List aM) {st:St} {Q:St->Prop},mZ L l st Q->qY L l st fun st' rs=>bAd rs/\ rs.length=l.length/\ Q st'
 |[],st,Q,h=>⟨fun _ hr=>by simp at hr,rfl,h⟩
 |o::l,st,Q,h=>by
  refine kI h fun s r ⟨h1,h2,h3,h4⟩=>?_
  have rec_: ∀(l:List aM) {st:St} {Q R:St->List Res->Prop},qY L l st Q->(∀s rs,Q s rs->R s rs)->qY L l st R:=by
   intro l
   induction l with
   |nil=>intro st Q R h k;exact k _ _ h
   |cons o l ih=>intro st Q R h k;exact kI h fun s r hs=>ih hs fun s rs hq=>k _ _ hq
  refine rec_ l (aM6 l h4) fun s rs ⟨k1,k2,k3⟩=>⟨fun x hx=>?_,by simp[k2],k3⟩
  rcases bP0.1 hx with rfl|hx
  ·exact⟨h1,h2,h3⟩
  ·exact k1 x hx
theorem aAl {L:bJ}{pairs:List (Nat×Nat)}{R:Ex->St->Prop}(hp:pairs.all (fun p=>decide (p.1<l.length)&&decide (p.2<l.length))=true)
  (h:mZ L l st (R .normal)):Wp L (.draw l pairs) st R:=by
 simp only[Wp];have hr:=aM6 l h;split
 ·rename_i hpp;have: ∀(l:List aM) {st:St} {Q:St->List Res->Prop} {R:St->Prop},qY L l st Q->(∀s rs,Q s rs->R s)->iW L l st R:=by
   intro l
   induction l with
   |nil=>intro st Q R h k;exact k _ _ h
   |cons o l ih=>intro st Q R h k;exact kI h fun s r hs=>ih hs fun s rs hq=>k _ _ hq
  exact this l hr fun s rs h=>h.2.2
 ·have rec_: ∀(l:List aM) {st:St} {Q R:St->List Res->Prop},qY L l st Q->(∀s rs,Q s rs->R s rs)->qY L l st R:=by
   intro l
   induction l with
   |nil=>intro st Q R h k;exact k _ _ h
   |cons o l ih=>intro st Q R h k;exact kI h fun s r hs=>ih hs fun s rs hq=>k _ _ hq
  refine rec_ l hr fun s rs ⟨h1,h2,h3⟩=>⟨?_,h3⟩
  unfold dS
  refine bO4.2 fun p hpm=>?_
  have:=bO4.1 hp p hpm;simp only[bOx,bSi]at this;rw[bP7 (by omega),bP7 (by omega)]
  obtain⟨a1,a2,a3⟩:=h1 rs[p.1] (bO6 _);obtain⟨b1,b2,b3⟩:=h1 rs[p.2] (bO6 _);simp[aDy,a1,a3,b1,b3]
section
variable {L :bJ}{Q:St->Prop}
@[go_sem] theorem bM2 (st:St):mZ L [] st Q=Q st:=(rfl)
def aJ0 (L:bJ)(l:List aM)(dst:Option Nat)(fr:Nat->Val)(en:En)(cnt:Nat->Nat->Nat)(Q:St->Prop):Option Res->Prop
 |some r=>(r.bump&&dst.isNone)=false/\ r.ws=[]/\ r.bump=false/\ r.mem=none/\ mZ L l ⟨hZ fr dst r.v,W.applyAll en r.ws,if r.bump then aC cnt 0 (dst.getD 0) (cnt 0 (dst.getD 0)+1)else cnt⟩ Q
 |none=>False
@[congr] theorem bE6 {r:Option Res}(h:r=r'):aJ0 L l dst fr en cnt Q r=aJ0 L l dst fr en cnt Q r':=by rw[h]
@[go_sem] theorem bGn {rs:List R}:
  aJ0 L l dst fr en cnt Q (some ⟨v,[],rs,false,none,u⟩)=mZ L l ⟨hZ fr dst v,en,cnt⟩ Q:=by simp[aJ0,W.applyAll]
@[go_sem] theorem bOm (h:op.plain=true):mZ L (⟨dst,op,none⟩::l) ⟨fr,en,cnt⟩ Q=aJ0 L l dst fr en cnt Q (dE (dst.getD 0) (cnt 0 (dst.getD 0)) en (St.get fr) op):=by
 cases op<;>first|(simp[LOp.plain]at h;done)|rfl|(simp only[mZ,oF,wanted,WOp,aJ0];rfl)
@[go_sem] theorem bAe :mZ L (⟨dst,op,some (t,b)⟩::l) ⟨fr,en,cnt⟩ Q=
  qZ (fr t) b (mZ L (⟨dst,op,none⟩::l) ⟨fr,en,cnt⟩ Q) (mZ L l ⟨hZ fr dst (.tup []),en,cnt⟩ Q):=by
 simp only[mZ,oF,wanted,qZ]
 split<;>rename_i h
 ·split at h
  ·rename_i b' hb;simp only[bOw]at h;simp only[hb,h,if_true]
  ·cases h
  ·cases h
 ·split at h
  ·rename_i b' hb;simp only[bOw]at h;simp only[hb,h,bO0,if_false,true_and]
  ·rename_i hb;simp only[hb,true_and]
  ·cases h
 ·split at h
  ·cases h
  ·cases h
  ·rename_i h1 h2;split
   ·rename_i b' hb;exact absurd hb (h1 _)
   ·rename_i hb;exact absurd hb h2
   ·rfl
@[go_sem] theorem bLb {f:Opd}{args:List Opd}:mZ L (⟨dst,.call f args,none⟩::l) ⟨fr,en,cnt⟩ Q=
  aCk L en (St.get fr f) (args.map (St.get fr)) fun r ks=>aJ0 L l dst fr en cnt Q (some (gS 0 (dst.getD 0) (cnt 0 (dst.getD 0)) r ks)):=by
 simp only[mZ,oF,wanted,WOp,aCk,aHd,aRi];cases St.get fr f<;>first|rfl|skip
end
section
variable {L :bJ}{Q:St->Prop}
def aEl (m:Nat)(en:En)(a v:Val):Option Res:=
  if v.one=true/\ v.cells.length=m then
   match a with
   | .ptr k off=>match en k with
    |some (.box cs false)=>if off+m<=cs.length then some {v:= .tup [],ws:=[.cells k off v.cells],rs:=[.flag k]}else none
    |_=>none
   | .ep k i off=>match en k with
    |some (.blk _ xs false)=>match xs[i]? with
     |some y=>if off+m<=y.cells.length then
       if k.deep then none else
       match snapD 8 en v with
       |some (v',ks)=>if v'.one=true/\ v'.cells.length=m/\ ks.all (fun k'=>decide (k'≠k))=true then some {v:= .tup [],ws:=ks.map .frz++[.elem k i off v'.wk1.cells],rs:= .val k:: .flag k::ks.map .val}else none
       |none=>none
      else none
     |none=>none
    |_=>none
   |_=>none
  else none
@[go_sem] theorem bHy {a x:Opd}:dE d g en get (.store m a x)=aEl m en (get a) (get x):=(rfl)
@[go_sem] theorem bHz {k:Key}(h1:v.one=true)(h2:v.cells.length=m):aEl m en (.ptr k off) v=(match en k with
    |some (.box cs false)=>if off+m<=cs.length then some {v:= .tup [],ws:=[.cells k off v.cells],rs:=[.flag k]}else none
    |_=>none):=by simp[aEl,h1,h2]
@[go_sem] theorem bE7 {k:Key}:(W.cells k off vs).apply en=(match en k with
  |some (.box cs f)=>en.set k (some (.box (setCells cs off vs) f))
  |_=>en):=(rfl)
def jV (str:Bool)(size:Nat)(en:En)(x:Val)(lo hi mx:Option Val):Option Res:=
  if str then
   match x,mx with
   | .str s,none=>match iS hi s.size s.size with
    |some h=>(iS lo 0 h).map fun l=>{v:= .str (s.extract l h)}
    |none=>none
   |_,_=>none
  else match x with
   | .fz xs=>match mx with
    |none=>match iS hi xs.length xs.length with
     |some h=>match iS lo 0 h with
      |some l=>if l=0 \/cY size xs=true then some {v:= .fz ((xs.take h).drop l)}else none
      |none=>none
     |none=>none
    |some m=>aIw size xs lo hi m
   | .cl xs=>match mx with
    |none=>match iS hi xs.length xs.length with
     |some h=>match iS lo 0 h with
      |some l=>if l=0 \/cY size xs=true then some {v:=if h=xs.length then .cl (xs.drop l)else .fz ((xs.take h).drop l)}else none
      |none=>none
     |none=>none
    |some m=>aIw size xs lo hi m
   | .bl k off len=>match mx with
    |none=>match iS hi len len with
     |some h=>match iS lo 0 h with
      |some l=>match en k with
       |some (.blk sz _ _)=>if l=0 \/sz=size then some {v:= .bl k (off+l) (h-l),rs:=[.val k]}else none
       |_=>none
      |none=>none
     |none=>none
    |some _=>none
   |_=>none
@[go_sem] theorem bH0 {str:Bool}{x:Opd}{lo hi mx:Option Opd}:dE d g en get (.slice str size x lo hi mx)=jV str size en (get x) (lo.map get) (hi.map get) (mx.map get):=by
 cases mx<;>cases str<;>(simp only[dE,eval,jV,Option.map])<;>cases get x<;>rfl
@[go_sem] theorem uA {a:Nat}:iS none a t=some a:=(rfl)
theorem tA {i a:Nat}(h:i<=t):iS (some (.int k (i:Int))) a t=some i:=by
 simp only[iS];rw[if_pos ⟨by omega,by omega⟩];simp
@[go_sem] theorem uB {i:Nat}(h:i<=xs.length):jV false size en (.fz xs) none (some (.int k (i:Int))) none=some {v:= .fz (xs.take i)}:=by
 simp[jV,tA h,uA]
theorem aJ1 {i:Nat}(h:i<=xs.length)(hs:cY size xs=true):jV false size en (.fz xs) (some (.int k (i:Int))) none none=some {v:= .fz (xs.drop i)}:=by
 simp[jV,tA h,uA,hs]
end
theorem aRm {l:List α}{k:Nat}(h:k<l.length)(p:α->Bool):(l.drop k).any p=(p l[k]||(l.drop (k+1)).any p):=by
 rw[bPy h,List.any_cons]
theorem fQ {l:List α}{k:Nat}(h:k<l.length)(p:α->Bool):(l.drop k).all p=(p l[k]&&(l.drop (k+1)).all p):=by
 rw[bPy h,bQ7]
variable {D:List Nat}
section
variable {L :bJ}{Q:St->Prop}
def jK (en:En)(v:Val)(size:Nat)(xs:List Val)(D:List Nat):Prop:=
 (v= .cl []/\ xs=[]) \/ ∃t g f,v= .bl ⟨0,t,g⟩ 0 xs.length/\ en ⟨0,t,g⟩=some (.blk size xs f)/\ t∈D
theorem jK.nil (size:Nat)(D:List Nat):jK en (.cl []) size [] D:= .inl ⟨rfl,rfl⟩
theorem jK.keep (h:jK en v size xs D)(k: ∀t g,t∈D->en' ⟨0,t,g⟩=en ⟨0,t,g⟩):jK en' v size xs D:=by
 rcases h with h|⟨t,g,f,h1,h2,h3⟩
 ·exact .inl h
 ·exact .inr ⟨t,g,f,h1,by rw[k t g h3];exact h2,h3⟩
theorem jK.sub {D':List Nat}(h:jK en v size xs D)(k: ∀t∈D,t∈D'):jK en v size xs D':=by
 rcases h with h|⟨t,g,f,h1,h2,h3⟩
 ·exact .inl h
 ·exact .inr ⟨t,g,f,h1,h2,k t h3⟩
theorem jK.snap (h:jK en v size xs D)(n:Nat):
  ∃r ks,snapD (n+1) en v=some (r,ks)/\ r.wk0= .fz xs/\ r.wk1= .fz xs/\ r.wk= .fz xs/\ (r= .fz xs \/r= .cl xs):=by
 rcases h with⟨rfl,rfl⟩|⟨t,g,f,rfl,h2,_⟩
 ·exact⟨.cl [],[],rfl,rfl,rfl,rfl,.inr rfl⟩
 ·refine⟨.fz xs,[⟨0,t,g⟩],?_,rfl,rfl,rfl,.inl rfl⟩
  simp[snapD,h2,aJy]
theorem jK.len (h:jK en v size xs D):sI v=some xs.length:=by
 rcases h with⟨rfl,rfl⟩|⟨t,g,f,rfl,h2,_⟩<;>rfl
@[go_sem] theorem bJd :iN en (.cl xs)=some (xs,[]):=(rfl)
@[go_sem] theorem bAf :iN en (.fz xs)=some (xs,[]):=(rfl)
theorem aAm {x y:Opd}{rs:List R}(hx:jK en (St.get fr x) size xs D)(hy:iN en (St.get fr y)=some (ys,rs))(h1:cY size ys=true)
  (hl:xs.length+ys.length<=16777216)
  (k: ∀v en' cnt',jK en' v size (xs++ys) (d::D)->(∀n t g,n≠0 \/(t≠d/\ t∉D)->en' ⟨n,t,g⟩=en ⟨n,t,g⟩)->(∀n t,t≠d->cnt' n t=cnt n t)->iW L l ⟨iR fr d v,en',cnt'⟩ Q):
  iW L (⟨some d,.append size x y,none⟩::l) ⟨fr,en,cnt⟩ Q:=by
 rw[aRh (by rfl)]
 simp only[bPp];rcases hx with⟨hv,rfl⟩|⟨t,g,f,hv,he,ht⟩
 ·simp only[dE,eval,fJ,hy,h1,if_true,hv]
  by_cases hys:ys.isEmpty=true
  ·have:ys=[]:=by simpa using hys
   subst this;simp only[List.isEmpty_nil,if_true,aM5,fL];exact k _ _ _ (.inl ⟨rfl,rfl⟩) (fun _ _ _ _=>rfl) (fun _ _ _=>rfl)
  ·rw[if_neg hys,if_pos ⟨by simpa using hl,rfl⟩]
   simp only[aGd,kH,fL,xC]
   refine k _ _ _ (.inr ⟨d,cnt 0 d,false,by simp,by simp[En.set],by simp⟩) (fun n t g h=>pZ (fun he=>?_)) (fun n t h=>by simp[aC,h])
   injection he with h3 h4 h5
   rcases h with h|⟨h,_⟩
   ·exact h h3
   ·exact h h4
 ·simp only[dE,eval,fJ,aJy,hy,h1,if_true,hv,he];rw[if_pos ⟨.inl (by simp),hl,trivial,fun h=>by cases h⟩]
  simp only[aGd,kH,fL,xC]
  refine k _ _ _ (.inr ⟨d,cnt 0 d,f,by simp,?_,by simp⟩) (fun n t' g' h=>?_) (fun n t h=>by simp[aC,h])
  ·simp[En.set]
  ·have e1:(⟨n,t',g'⟩:Key)≠⟨0,d,cnt 0 d⟩:=by
    intro he;injection he with h3 h4 h5;rcases h with h|⟨h,_⟩
    ·exact h h3
    ·exact h h4
   have e2:(⟨n,t',g'⟩:Key)≠⟨0,t,g⟩:=by
    intro he;injection he with h3 h4 h5;subst h4;rcases h with h|⟨_,h⟩
    ·exact h h3
    ·exact h ht
   rw[pZ e1,pZ e2]
def aV7 (x i:Val):Option Res:=match x,i with
  | .str s,.int _ j=>if 0<=j then(s[j.toNat]?).map fun b=>{v:= .int .u8 b.toNat}else none
  |_,_=>none
@[go_sem] theorem bLc {x i:Opd}:dE d g en get (.ixs x i)=aV7 (get x) (get i):=(rfl)
theorem bDe (h:j<s.data.toList.length):aV7 (.str s) (.int k (j:Int))=some {v:= .int .u8 (s.data.toList[j]).toNat}:=by
 have h':j<s.size:=by rw[bQ4]at h;exact h
 have e:s[(j:Int).toNat]?=some (s.data.toList[j]):=by
  simp only[bPz];rw[getElem?_pos s j h'];exact congrArg some (by rw[ByteArray.getElem_eq_getElem_data,bRr])
 unfold aV7;simp only[if_pos (bRg j),e,Option.map]
end
inductive dU (a b:Prop):Type
 |mk
section
variable {L :bJ}{Q:St->Prop}{R:Ex->St->Prop}
def aGe (v:Val)(a b:Prop)(_:dU a b):Prop:=aJx v a b
def oQ (v:Val)(t:Bool)(a b:Prop)(_:dU a b):Prop:=qZ v t a b
@[congr] theorem bDf {a b:Prop}{k:dU a b}(h:v=v'):aGe v a b k=aGe v' a b k:=by rw[h]
@[congr] theorem bCk {t:Bool}{a b:Prop}{k:dU a b}(h:v=v'):oQ v t a b k=oQ v' t a b k:=by rw[h]
theorem qC {x:Opd}{a b:bB}:Wp L (.cond x a b) ⟨fr,en,cnt⟩ R=aGe (St.get fr x) (Wp L a ⟨fr,en,cnt⟩ R) (Wp L b ⟨fr,en,cnt⟩ R) .mk:=(rfl)
theorem bAg {a b:Prop}{k:dU a b}:aGe (.bool true) a b k=a:=(rfl)
theorem bAh {a b:Prop}{k:dU a b}:aGe (.bool false) a b k=b:=(rfl)
theorem aH {t:Bool}{a b:Prop}{k:dU a b}(h:t=true->a)(h':t=false->b):aGe (.bool t) a b k:=aY h h'
theorem qG {t:Nat}{b:Bool}{op:LOp}:iW L (⟨dst,op,some (t,b)⟩::l) ⟨fr,en,cnt⟩ Q=
  oQ (fr t) b (iW L (⟨dst,op,none⟩::l) ⟨fr,en,cnt⟩ Q) (iW L l ⟨hZ fr dst (.tup []),en,cnt⟩ Q) .mk:=bDa
theorem qS {t:Nat}{b:Bool}{op:LOp}:mZ L (⟨dst,op,some (t,b)⟩::l) ⟨fr,en,cnt⟩ Q=
  oQ (fr t) b (mZ L (⟨dst,op,none⟩::l) ⟨fr,en,cnt⟩ Q) (mZ L l ⟨hZ fr dst (.tup []),en,cnt⟩ Q) .mk:=bAe
theorem aXi {a b:Prop}{k:dU a b}:oQ (.bool true) true a b k=a:=(rfl)
theorem aXj {a b:Prop}{k:dU a b}:oQ (.bool false) false a b k=a:=(rfl)
theorem aXk {a b:Prop}{k:dU a b}:oQ (.bool true) false a b k=b:=(rfl)
theorem aXl {a b:Prop}{k:dU a b}:oQ (.bool false) true a b k=b:=(rfl)
theorem aXm {a b:Prop}{k:dU a b}{t:Bool}:oQ (.tup []) t a b k=b:=(rfl)
theorem aL {k:dU yes no}(h:b=b'->yes)(h':b=!b'->no):oQ (.bool b) b' yes no k:=bG h h'
end
theorem aC9 {L:bJ}{b:bB}{R:Ex->St->Prop}:Wp L (.seq (.ops l) b) st R=iW L l st fun st'=>Wp L b st' R:=(rfl)
theorem aBz {L:bJ}{a b:bB}{Q:Ex->St->Prop}(M:St->Prop)
  (h:Wp L a st fun e st'=>match e with| .normal=>M st'| .exit i=>Q (.exit i) st'| .ret=>Q .ret st'| .panic v=>Q (.panic v) st') (k: ∀fr en cnt,M ⟨fr,en,cnt⟩->Wp L b ⟨fr,en,cnt⟩ Q):Wp L (.seq a b) st Q:=
 bGf M h fun st' h'=>k _ _ _ h'
section
variable {L :bJ}{Q:St->Prop}
def bGo (size:Nat)(z:List Val)(d g:Nat)(x y:Val):Option Res:=match x,y with
  | .int .i64 a,.int .i64 b=>if a=b/\ aQh a=true then
    some {v:= .bl ⟨0,d,g⟩ 0 a.toNat,ws:=[.ent ⟨0,d,g⟩ (some (.blk size (List.replicate a.toNat (jM size z false)) false))],bump:=true}else none
  |_,_=>none
@[go_sem] theorem bH1 {x y:Opd}:dE d g en get (.mklen size z x y)=bGo size z d g (get x) (get y):=(rfl)
theorem bAi {n:Nat}(h:n<=16777216):bGo size z d g (.int .i64 (n:Int)) (.int .i64 (n:Int))=some {v:= .bl ⟨0,d,g⟩ 0 n,ws:=[.ent ⟨0,d,g⟩ (some (.blk size (List.replicate n (jM size z false)) false))],bump:=true}:=by
 have:aQh (n:Int)=true:=by simp[aQh];omega
 simp[bGo,this]
@[go_sem] theorem bE8 :jM 1 [.bool b] false= .bool b:=(rfl)
@[go_sem] theorem bGp {n:Int}:jM 1 [.int k n] false= .int k n:=(rfl)
@[go_sem] theorem bOn {len:Nat}{k:Key}{kk:IntKind}{j:Int}:nO size en (.bl k off len) (.int kk j)=(match en k with
  |some (.blk sz _ _)=>if 0<=j/\ j<len/\ sz=size then some {v:= .ep k (off+j.toNat) 0,rs:=[.val k]}else none
  |_=>none):=(rfl)
@[go_sem] theorem bLd {k:Key}{i n:Nat}:sB en (.ep k i off) n=(match en k with
  |some (.blk _ xs _)=>(match xs[i]? with
   |some x=>if off+n<=x.cells.length then some ((x.cells.drop off).take n,[.val k])else none
   |none=>none)
  |_=>none):=(rfl)
@[go_sem] theorem bJe {i:Nat}{k:Key}(h1:v.one=true)(h2:v.cells.length=m):aEl m en (.ep k i off) v=(match en k with
    |some (.blk _ xs false)=>(match xs[i]? with
     |some y=>if off+m<=y.cells.length then
       if k.deep=true then none else
       (match snapD 8 en v with
       |some (v',ks)=>if v'.one=true/\ v'.cells.length=m/\ ks.all (fun k'=>decide (k'≠k))=true then some {v:= .tup [],ws:=ks.map .frz++[.elem k i off v'.wk1.cells],rs:= .val k:: .flag k::ks.map .val}else none
       |none=>none)
      else none
     |none=>none)
    |_=>none):=by simp[aEl,h1,h2]
@[go_sem] theorem bGq {k:Key}{i:Nat}:(W.elem k i off vs).apply en=(match en k with
  |some (.blk sz xs f)=>(match xs[i]? with
   |some x=>en.set k (some (.blk sz (xs.set i (eV x off vs)) f))
   |none=>en)
  |_=>en):=(rfl)
@[go_sem] theorem bJf :eV (.bool b) 0 [v]=v:=(rfl)
@[go_sem] theorem bLe {n:Int}:eV (.int k n) 0 [v]=v:=(rfl)
attribute [go_sem] List.all_nil ite_self
end
variable {tbl:List (Nat×Nat)}
section
variable {L :bJ}{n:Nat}
@[go_sem] theorem bOo {b:List Val}:snapD (n+1) en (.fn f a b)=(match cU (snapD n en) a with
   |some x=>(match cU (snapD n en) b with
    |some y=>some (.fn f (x.map (·.1)) (y.map (·.1)),x.flatMap (·.2)++y.flatMap (·.2))
    |none=>none)
   |none=>none):=(rfl)
@[go_sem] theorem bM3 :snapD (n+1) en (.ifc t v)=(match snapD n en v with
   |some r=>some (.ifc t r.1,r.2)
   |none=>none):=(rfl)
@[go_sem] theorem g_m {i:Nat}:St.get fr (.m tbl i)=wP tbl (fr i):=(rfl)
@[go_sem] theorem bGr :wP tbl (.ifc t v)=(match tbl.lookup t with
  |some f=> .fn f [v] []
  |none=> .dead):=(rfl)
attribute [go_sem] List.lookup_cons
structure dV {α:Type} (L:bJ) (enc:α->Val) (h:Val) (p:α->Bool) (l:List α):Prop where
 snap: ∀n en,4<=n->snapD n en h=some (h,[])
 wk:h.wk1=h
 one:h.one=true
 cells:h.cells=[h]
 call: ∀x∈l,∀en K,K (.bool (p x)) []->aCk L en h [enc x] K
theorem lM (h1:v.one=true)(h2:v.cells=[v]):aAj d g 1 v=some {v:= .ptr ⟨0,d,g⟩ 0,ws:=[.ent ⟨0,d,g⟩ (some (.box [v] false))],bump:=true}:=by
 simp[aAj,h1,h2]
end
def idxOf {α:Type}(p:α->Bool):List α->Nat->Int
 |[],_=> -1
 |x::l,k=>if p x then(k:Int)else idxOf p l (k+1)
theorem nP {α:Type}(p:α->Bool): ∀(l:List α) (k:Nat),decide (0<=idxOf p l k)=l.any p
 |[],k=>by simp[idxOf]
 |x::l,k=>by
  simp only[idxOf,List.any_cons];split
  ·rename_i h;simp[h]
  ·rename_i h;rw[nP p l (k+1)];simp[h]
variable {key:Key}
section
def bE9 (d g:Nat)(x:Val):Option Res:=match x with
  | .str s=>some {v:= .it ⟨0,d,g⟩,ws:=[.ent ⟨0,d,g⟩ (some (.iter s 0))],bump:=true}
  |_=>none
@[go_sem] theorem bLf {x:Opd}:dE d g en get (.rng x)=bE9 d g (get x):=(rfl)
@[go_sem] theorem bLg :bE9 d g (.str s)=some {v:= .it ⟨0,d,g⟩,ws:=[.ent ⟨0,d,g⟩ (some (.iter s 0))],bump:=true}:=(rfl)
def bFa (en:En)(x:Val):Option Res:=match x with
  | .it k=>match en k with
   |some (.iter s pos)=>
    if pos<s.size then some {v:= .tup [.bool true,.int .i64 pos,.int .i32 (Utf8.decode s pos).1],ws:=[.ent k (some (.iter s (pos+(Utf8.decode s pos).2)))],rs:=[.val k,.flag k]}
    else some {v:= .tup [.bool false],rs:=[.val k]}
   |_=>none
  |_=>none
@[go_sem] theorem bLh {x:Opd}:dE d g en get (.nxt x)=bFa en (get x):=(rfl)
@[go_sem] theorem bM4 {k:Key}:bFa en (.it k)=(match en k with
   |some (.iter s pos)=>
    if pos<s.size then some {v:= .tup [.bool true,.int .i64 pos,.int .i32 (Utf8.decode s pos).1],ws:=[.ent k (some (.iter s (pos+(Utf8.decode s pos).2)))],rs:=[.val k,.flag k]}
    else some {v:= .tup [.bool false],rs:=[.val k]}
   |_=>none):=(rfl)
def bFb (t:EqT)(en:En)(m k x:Val):Option Res:=match m with
  | .mp key=>match en key with
   |some (.map ks vs false)=>
    if tK t k&&x.flat1 then
     match findKey t k ks with
     |some (some i)=>some {v:= .tup [],ws:=[.ent key (some (.map (ks.set i k) (vs.set i x) false))],rs:=[.val key,.flag key]}
     |some none=>some {v:= .tup [],ws:=[.ent key (some (.map (ks++[k]) (vs++[x]) false))],rs:=[.val key,.flag key]}
     |none=>none
    else none
   |_=>none
  |_=>none
@[go_sem] theorem bJg {t:EqT}{m k x:Opd}:dE d g en get (.mput t m k x)=bFb t en (get m) (get k) (get x):=(rfl)
@[go_sem] theorem bM5 {t:EqT}{k x:Val}:bFb t en (.mp key) k x=(match en key with
   |some (.map ks vs false)=>
    if(tK t k&&x.flat1)=true then
     (match findKey t k ks with
     |some (some i)=>some {v:= .tup [],ws:=[.ent key (some (.map (ks.set i k) (vs.set i x) false))],rs:=[.val key,.flag key]}
     |some none=>some {v:= .tup [],ws:=[.ent key (some (.map (ks++[k]) (vs++[x]) false))],rs:=[.val key,.flag key]}
     |none=>none)
    else none
   |_=>none):=(rfl)
@[go_sem] theorem bH2 :tK .str (.str s)=true:=(rfl)
@[go_sem] theorem bH3 {n:Int}:tK .num (.int k n)=true:=(rfl)
@[go_sem] theorem bGs :Val.flat1 (.bool b)=true:=(rfl)
@[go_sem] theorem bM6 {k:Key}:aRk .map en (.mp k)=(match en k with
    |some (.map ks _ _)=>some {v:= .int .i64 ks.length,rs:=[.val k]}
    |_=>none):=(rfl)
def aDa (t:EqT)(z:Val)(ok:Bool)(k:Val)(ks vs:List Val):Option Val:=match findKey t k ks with
    |some (some i)=>some (if ok then .tup [vs.getD i .dead,.bool true]else vs.getD i .dead)
    |some none=>some (if ok then .tup [z,.bool false]else z)
    |none=>none
def aRn (t:EqT)(z:Val)(ok:Bool)(en:En)(m k:Val):Option Res:=
  if tK t k then
   match m with
   | .mp key=>match en key with
    |some (.map ks vs _)=>(aDa t z ok k ks vs).map fun v=>{v,rs:=[.val key]}
    |_=>none
   | .fm ks vs=>(aDa t z ok k ks vs).map fun v=>{v}
   | .nilm=>(aDa t z ok k [] []).map fun v=>{v}
   |_=>none
  else none
@[go_sem] theorem bJh {t:EqT}{z:Val}{m k:Opd}:dE d g en get (.mget t z ok m k)=aRn t z ok en (get m) (get k):=(rfl)
@[go_sem] theorem bM7 {t:EqT}{z:Val}{k:Val}(h:tK t k=true):aRn t z ok en (.mp key) k=(match en key with
    |some (.map ks vs _)=>(aDa t z ok k ks vs).map fun v=>{v,rs:=[.val key]}
    |_=>none):=by simp[aRn,h]
@[go_sem] theorem bM8 {t:EqT}{z:Val}{k:Val}{ks:List Val}(h:tK t k=true):aRn t z ok en (.fm ks vs) k=(aDa t z ok k ks vs).map fun v=>{v}:=by simp[aRn,h]
end
theorem uC {L:bJ}{g:Opd}{a b:bB}{Q:Ex->St->Prop}{x y:List Val}(h:St.get fr g= .fn f x y)
  (H: ∀fr0 k,fr0=fr->k=jU cnt->WIn L (.fn f x y) [.yld k] (en.set k (some (.loop fr0 ps a b .ready))) (aC cnt 1 0 (cnt 1 0+1)) fun _ en' cnt'=>
   match en' k with
   |some (.loop _ _ _ _ .ready)=>Q .normal ⟨fr,en'.set k none,cnt'⟩
   |some (.loop _ _ _ _ (.done e))=>Q e ⟨fr,en'.set k none,cnt'⟩
   |_=>False):Wp L (.rangeF g ps a b) ⟨fr,en,cnt⟩ Q:=by
 simp only[Wp,h];exact .inl (H fr _ rfl rfl)
theorem aGf {L:bJ}{g:Opd}{a b:bB}{Q:Ex->St->Prop}{x y:List Val}(h:St.get fr g= .fn f x y)
  (H: ∀fr0 k,fr0=fr->k=jU cnt->wF L f (x++[.yld k]++y) (en.set k (some (.loop fr0 ps a b .ready))) (aC cnt 1 0 (cnt 1 0+1)) fun v en' cnt'=>Q (.panic v) ⟨fr,en'.set k none,cnt'⟩):Wp L (.rangeF g ps a b) ⟨fr,en,cnt⟩ Q:=by
 simp only[Wp,h];exact .inr (H fr _ rfl rfl)
@[go_sem] theorem bGt :zT fr [] vs=fr:=(rfl)
@[go_sem] theorem bFc {p:Nat}:zT fr (p::ps) (v::vs)=zT (iR fr p v) ps vs:=(rfl)
theorem aUq :jU cnt=⟨1,0,cnt 1 0⟩:=rfl
theorem jK.shape (h:jK en v size xs D):v.one=true/\ v.cells=[v]:=by
 rcases h with⟨rfl,_⟩|⟨t,g,f,rfl,_⟩<;>exact⟨rfl,rfl⟩
attribute [go_sem] bAg bAh aXi aXj aXk aXl aXm Int.cast_ofNat_Int beq_self_eq_true
attribute [go_sem] Nat.reduceEqDiff Nat.reduceBEq Nat.reduceMul Nat.reduceLeDiff Nat.reduceAdd Nat.reduceSub Nat.reduceLT Int.reduceLT Int.reduceLE Int.reduceToNat Int.reduceAdd Int.reduceNeg Int.reduceEq Int.reduceOfNat Int.reduceNegSucc
theorem kK :type_of% @qC/\ type_of% @qG/\ type_of% @qS/\ type_of% @qW:=⟨@qC,@qG,@qS,@qW⟩
theorem kA :type_of% @bQ7.{0}/\ type_of% @bRf.{0}/\ type_of% @bR9.{0}/\ type_of% @Bool.true_or/\ type_of% @bQv:=⟨@bQ7.{0},@bRf.{0},@bR9.{0},@Bool.true_or,@bQv⟩
theorem kF :type_of% @bO0/\ type_of% @if_false.{1}/\ type_of% @bPp.{0}:=⟨@bO0,@if_false.{1},@bPp.{0}⟩
end Go.Abs
