/- The interpreter of the translated code, and its proof: part D. -/
import Derived.Test.YtmnchlhngpdffaaGreatHxC
import Derived.RecoverIn
import Derived.KernelRfl
import Derived.ProofKit
import Derived.OpenShut
import Derived.JoinedOf
import Derived.Test.YtmnchlhngpdffaaGreatHxA
import Derived.IntWalk
set_option linter.all false
open Array renaming getD_eq_getD_getElem? → bOl, getElem?_append → bQy, getElem?_eq_getElem → bOv, getElem?_replicate → bPz, getElem_toList → bQ0, length_toList → bQc, mapM_eq_mapM_toList → bRq, size_append → bQx
open Bool renaming and_eq_true → bN8, and_false → bPp, and_true → bQa, false_and → bOx, false_eq_true → bOa, not_false → bOs, not_true → bOn, or_true → bP3, true_and → bO3
open Int renaming natCast_nonneg → bQo, toNat_natCast → bPc
open List renaming all_cons → bQg, all_eq_true → bOe, any_eq_true → bQ8, append_nil → bPa, cons_append → bQj, countP_le_length → bRh, drop_eq_getElem_cons → bO9, drop_eq_nil_iff → bRf, drop_zero → bQf, flatMap_cons → bQm, flatMap_nil → bP7, foldl_nil → bQl, getD_cons_zero → bQ3, getD_eq_getElem?_getD → bOd, getElem?_append → bQw, getElem?_cons_succ → bRk, getElem?_cons_zero → bQn, getElem?_eq_getElem → bPh, getElem_mem → bOg, isEmpty_iff → bQ6, length_append → bOr, length_cons → bOh, length_map → bOc, length_nil → bOo, map_cons → bO4, map_nil → bOq, mem_append_left → bQ4, mem_append_right → bQt, mem_cons → bO8, mem_cons_of_mem → bP8, mem_map → bO5, mem_range → bO7, nil_append → bPb, range'_succ → bQ5, range_eq_range' → bRc, set_cons_succ → bP5, set_cons_zero → bP4, take_succ_cons → bOp, take_zero → bOm
open Nat renaming add_zero → bPo, le_refl → bN9, le_trans → bOk, zero_add → bO1
open Option renaming bind_eq_bind → bOu, bind_eq_some_iff → bOi, getD_some → bOz, isNone_iff_eq_none → bQ7, isSome_iff_exists → bPs, map_eq_some_iff → bOj, map_some → bO0, pure_def → bOw
open Option.some renaming injEq → bN7
open Prod.mk renaming injEq → bOb
namespace Go.Abs
open Go.RowKit (Below)
variable [Inhabited lD]
variable {st:St}{n:Nat}
theorem wA {L:bG}{x:Ex×St}(h:exec L n aHu st=some x):False:=by
 cases n<;>simp[aHu,exec,St.get]at h
variable {P:Program}
theorem aXz {L:bG}(hL:oX P L)(hF:aEz P L n)(ih:vA P L n):vY P (eJ L (exec L n)):=⟨aM3 hL hF,bAr ih⟩
variable {v:Val}{args:List Val}{ex:bA->St->Option (Ex×St)}{f:Nat}{st':St}
theorem bD2 {L:bG}(h:jZ L ex f args st=some (v,st')):st'.fr=st.fr:=by
 simp only[jZ]at h
 split at h
 ·cases h
 split at h
 case isFalse=>cases h
 split at h
 ·obtain⟨r,_,he⟩:=bOj.1 h;simp only[bOb]at he;rw[<-he.2]
 split at h
 case h_2=>cases h
 split at h
 case isFalse=>cases h
 obtain⟨vs,_,he⟩:=bOj.1 h;simp only[bOb]at he;rw[<-he.2]
theorem bD3 {L:bG}(h:dS L ex f args st=some (v,st')):st'.fr=st.fr:=by
 simp only[dS]at h
 split at h
 ·cases h
 split at h
 case isFalse=>cases h
 split at h
 case h_2=>cases h
 simp only[bN7,bOb]at h;rw[<-h.2]
theorem bAs {L:bG}(h:yU L ex f args st=some (v,st')):st'.fr=st.fr:=by
 simp only[yU]at h
 split at h
 case h_2=>cases h
 rename_i hi
 split at h
 case h_2=>cases h
 split at h
 case h_2=>cases h
 simp only[bN7,bOb]at h;have:=bD2 hi;rw[<-h.2];exact this
variable {N B m:Nat}{cb ca:Code}{I:Operand->Bool}{G:Gh}{w:World}{ps:Array Tmp}{Q:Exit->Act->World->Prop}{e:Ex}{S:Nat->Nat->Prop}{Ξ:Env}
theorem aIl {L:bG}(hL:oX P L)(hF:aEz P L n){a0:Act}{W0:World}
     {x y:List Val} {p q:Array Value} (hps:ps.toList.all (· <N)=true) (haN:(cA P I ca).dstOk N=true) (hbN:(cA P I cb).dstOk N=true) (hR:Rel P Ξ B S G st N a0 W0) (hB0:Below B w W0)
  (hp:p.size=x.length) (hq:q.size=y.length) (hvp: ∀i,i<x.length->VR (aW B S G W0.heap.size) G W0 (x.getD i .dead) (p.getD i undef)) (hvq: ∀i,i<y.length->VR (aW B S G W0.heap.size) G W0 (y.getD i .dead) (q.getD i undef))
  (hcx:(∃v st2,yU L (exec L n) f (x++[.yld ⟨1,0,st.cnt 1 0⟩]++y) {fr:=st.fr,en:=st.en.set ⟨1,0,st.cnt 1 0⟩ (some (.loop st.fr ps.toList (cA P I ca) (cA P I cb) .ready)),cnt:=aC st.cnt 1 0 (st.cnt 1 0+1)}=some (v,st2)/\
   (match st2.en ⟨1,0,st.cnt 1 0⟩with
   |some (.loop _ _ _ _ .ready)=>some (.normal,{st2 with en:=st2.en.set ⟨1,0,st.cnt 1 0⟩ none})
   |some (.loop _ _ _ _ (.done e))=>some (e,{st2 with en:=st2.en.set ⟨1,0,st.cnt 1 0⟩ none})
   |_=>none:Option (Ex×St))=some (e,st')) \/
   ∃v st2,dS L (exec L n) f (x++[.yld ⟨1,0,st.cnt 1 0⟩]++y) {fr:=st.fr,en:=st.en.set ⟨1,0,st.cnt 1 0⟩ (some (.loop st.fr ps.toList (cA P I ca) (cA P I cb) .ready)),cnt:=aC st.cnt 1 0 (st.cnt 1 0+1)}=some (v,st2)/\
    e= .panic v/\ st'={st2 with en:=st2.en.set ⟨1,0,st.cnt 1 0⟩ none}) (hQ: ∀a' w' G' x,e.val x->aEy P Ξ B S G' st' N e a' w'->Below B w w'->Q (e.toExit x) a' w') (rec:Loop)
  (hrec:rec.state= .ready/\ rec.pending=none/\ rec.tmps=a0.tmps/\ rec.params=ps/\ rec.assign=ca/\ rec.body=cb) (mm:Nat):
  CallsIn (Fx Ξ.ro) mm P f (p++ #[.func (.yield W0.heap.size) #[] #[]]++q) (W0.alloc (.loop rec)) (rangePost (Fx Ξ.ro) m P W0.heap.size Q a0):=by
 obtain⟨rfl1,rfl2,rfl3,rfl4,rfl5,rfl6⟩:=hrec;obtain⟨k,hk⟩: ∃k:Key,k=⟨1,0,st.cnt 1 0⟩:=⟨_,rfl⟩
 have hf:=hR.freshG ⟨1,0,st.cnt 1 0⟩ (bN9 _);have hg:=Gh.le_addMp (b:=W0.heap.size) hf.2.2;have ho': ∀b,b≠W0.heap.size->(G.addMp ⟨1,0,st.cnt 1 0⟩ W0.heap.size).own b=G.own b:=fun b hb=>by simp[Gh.addMp,hb]
 have mm1:=nW (B:=B) (S:=S) (w:=W0) (o:= .loop rec) hg ho';have hnew:(W0.alloc (.loop rec)).heap[W0.heap.size]?=some (.loop rec):=eW _ _;have hsz:N<=rec.tmps.size:=by rw[rfl3];exact hR.tmps
 have hfrm: ∀i,VR (aW B S (G.addMp ⟨1,0,st.cnt 1 0⟩ W0.heap.size) (W0.alloc (.loop rec)).heap.size) (G.addMp ⟨1,0,st.cnt 1 0⟩ W0.heap.size) (W0.alloc (.loop rec)) (st.fr i) (rec.tmps.getD i undef):=fun i=>by rw[rfl3];exact(hR.frame i).mono mm1
 have hmk:(G.addMp ⟨1,0,st.cnt 1 0⟩ W0.heap.size).mp ⟨1,0,st.cnt 1 0⟩=some W0.heap.size:=by simp[Gh.addMp]
 have how:(G.addMp ⟨1,0,st.cnt 1 0⟩ W0.heap.size).own W0.heap.size=some (⟨1,0,st.cnt 1 0⟩,0):=by simp[Gh.addMp]
 have hE:ER P B (aW B S (G.addMp ⟨1,0,st.cnt 1 0⟩ W0.heap.size) (W0.alloc (.loop rec)).heap.size) (G.addMp ⟨1,0,st.cnt 1 0⟩ W0.heap.size) (W0.alloc (.loop rec)) ⟨1,0,st.cnt 1 0⟩ (.loop st.fr ps.toList (cA P I ca) (cA P I cb) .ready):=
  ER.loop st.fr ps.toList (cA P I ca) (cA P I cb) .ready W0.heap.size rec I N hmk hR.size hnew (by rw[rfl4]) (by rw[rfl5]) (by rw[rfl6]) hsz hps haN hbN hfrm ⟨rfl1,rfl2⟩ how
 have hR1:=hR.allocN 1 0 (.loop rec) (.loop st.fr ps.toList (cA P I ca) (cA P I cb) .ready) (G.addMp ⟨1,0,st.cnt 1 0⟩ W0.heap.size) hg ho' (fun k' hk'=>⟨rfl,rfl,by simp[Gh.addMp,hk']⟩) (fun k' t h=>by rw[how]at h;simp only[bN7,bOb]at h;exact h.1.symm) hE
 let Ξ2:Env:={Ξ with prs:=fun u z=>Ξ.prs u z \/(u= .yld ⟨1,0,st.cnt 1 0⟩/\ z= .func (.yield W0.heap.size) #[] #[])}
 have hyl:VR (aW B S (G.addMp ⟨1,0,st.cnt 1 0⟩ W0.heap.size) (W0.alloc (.loop rec)).heap.size) (G.addMp ⟨1,0,st.cnt 1 0⟩ W0.heap.size) (W0.alloc (.loop rec)) (.yld ⟨1,0,st.cnt 1 0⟩) (.func (.yield W0.heap.size) #[] #[]):= .yld _ _ (by simp[Gh.addMp])
 have hR2:Rel P Ξ2 B S (G.addMp ⟨1,0,st.cnt 1 0⟩ W0.heap.size) {fr:=st.fr,en:=st.en.set ⟨1,0,st.cnt 1 0⟩ (some (.loop st.fr ps.toList (cA P I ca) (cA P I cb) .ready)),cnt:=aC st.cnt 1 0 (st.cnt 1 0+1)} N a0 (W0.alloc (.loop rec)):=
  ⟨hR1.size,hR1.tmps,hR1.frame,hR1.marks,hR1.ents,hR1.freshEn,hR1.freshG,hR1.own,fun u z hu=>hu.elim (fun hu=>hu.elim (fun h=>hR1.extra u z (.inl h)) fun h=>by rw[h.1,h.2];exact hyl) fun h=>hR1.extra u z (.inr h),hR1.round,hR1.defs,hR1.virt⟩
 have hszv:(p++ #[Value.func (.yield W0.heap.size) #[] #[]]++q).size=(x++[Val.yld ⟨1,0,st.cnt 1 0⟩]++y).length:=by simp only[bQx,bOr,hp,hq];rfl
 have hvrs: ∀i,i<(x++[Val.yld ⟨1,0,st.cnt 1 0⟩]++y).length->VR (aW B S (G.addMp ⟨1,0,st.cnt 1 0⟩ W0.heap.size) (W0.alloc (.loop rec)).heap.size) (G.addMp ⟨1,0,st.cnt 1 0⟩ W0.heap.size) (W0.alloc (.loop rec))
   ((x++[Val.yld ⟨1,0,st.cnt 1 0⟩]++y).getD i .dead) ((p++ #[Value.func (.yield W0.heap.size) #[] #[]]++q).getD i undef):=by
  intro i hi;simp only[bOr,bOh,bOo]at hi;simp only[bOd,bOl,bQw,bQy,bOr,bQx,bOh,bOo,hp];rw[show(#[Value.func (.yield W0.heap.size) #[] #[]]:Array Value).size=1 from rfl]
  split
  ·split
   ·rename_i h;have:=(hvp i h).mono mm1;simpa[bOd,bOl]using this
   ·have:i-x.length=0:=by omega
    rw[this];exact hyl
  ·have:=(hvq (i-(x.length+(0+1))) (by omega)).mono mm1;simpa[bOd,bOl]using this
 rcases hcx with⟨v,st2,hcall,hx⟩|⟨v,st2,hcall,rfl,rfl⟩
 case inr=>
  obtain⟨_,hcalls⟩:=aIh hL hF _ _ _ _ _ hcall;have hc:=hcalls Ξ2 B S _ _ N a0 _ _ hR2 rfl rfl hszv hvrs
  refine oG (ro:=Ξ.ro) (m:=mm) (Calls.mono hc ?_)
  rintro e1 w3 ⟨z,G3,rfl,hzv,hR3,hb3⟩
  have hb:Below B w w3:=(hB0.trans ((Below.refl B W0).alloc hR.size _)).trans hb3;have hw':=hR3.drop ⟨1,0,st.cnt 1 0⟩;have hfr:=bD3 hcall
  refine hQ a0 w3 G3 z hzv ?_ hb
  have hst:({st2 with en:=st2.en.set ⟨1,0,st.cnt 1 0⟩ none}:St)={fr:=st.fr,en:=st2.en.set ⟨1,0,st.cnt 1 0⟩ none,cnt:=st2.cnt}:=by rw[<-hfr]
  rw[hst]
  refine Rel.e (Ξ:=Ξ) ⟨hw'.size,hw'.tmps,hw'.frame,hw'.marks,hw'.ents,hw'.freshEn,hw'.freshG,hw'.own,fun u z hu=>hw'.extra u z (hu.imp_left .inl),hw'.round,hw'.defs,hw'.virt⟩
 obtain⟨_,hcalls⟩:=aM3 hL hF _ _ _ _ _ hcall;have hc:=hcalls Ξ2 B S _ _ N a0 _ _ hR2 rfl rfl hszv hvrs
 refine oG (ro:=Ξ.ro) (m:=mm) (Calls.mono hc ?_)
 ·rintro e1 w3 ⟨z,G3,rfl,hR3,_,hb3⟩
  have hb:Below B w w3:=(hB0.trans ((Below.refl B W0).alloc hR.size _)).trans hb3;have hy3:=hR3.extra (.yld ⟨1,0,st.cnt 1 0⟩) (.func (.yield W0.heap.size) #[] #[]) (.inl (.inr ⟨rfl,rfl⟩));have hfr:=bAs hcall;have done: ∀{fr3:Nat->Val} {ps3:List Nat} {la3 lb3:bA} {q3:LSt},st2.en ⟨1,0,st.cnt 1 0⟩=some (.loop fr3 ps3 la3 lb3 q3)->q3≠ .busy-> ∃rec3,w3.heap[W0.heap.size]?=some (.loop rec3)/\ aW8 q3 rec3/\ (rec3.state≠ .busy->
    Rel P Ξ B S G3 {fr:=st.fr,en:=st2.en.set ⟨1,0,st.cnt 1 0⟩ none,cnt:=st2.cnt} N a0 (w3.putObj W0.heap.size (.loop {rec3 with state:= .exhausted}))/\ Below B w (w3.putObj W0.heap.size (.loop {rec3 with state:= .exhausted}))):=by
   intro fr3 ps3 la3 lb3 q3 he3 _;cases hy3 with
   |yld _ _ hmp3=>
   have hE:=hR3.ents _ _ he3 (Gh.knows_mp hmp3);cases hE with
   |loop _ _ _ _ _ l3 rec3 I3 N3 hl3 hB3 hh3 hps3 ha3 hb3' hN3 hpN3 haN3 hbN3 hf3 hst3 hown3=>
   rw[hmp3]at hl3;simp only[bN7]at hl3;subst hl3
   refine⟨rec3,hh3,hst3,fun _=>?_⟩
   have hw:=(hR3.write (e':= .loop fr3 ps3 la3 lb3 .over) (o':= .loop {rec3 with state:= .exhausted}) hown3 hh3 (fun _ _=> .inl (by simp)) (fun _=>by simp) (fun r _=>⟨_,rfl⟩) (fun off h=>by omega)
    (fun m=> .loop fr3 ps3 la3 lb3 .over _ _ I3 N3 hmp3 hB3 (kH _ (dP hh3)) hps3 ha3 hb3' hN3 hpN3 haN3 hbN3 (fun i=>(hf3 i).mono m) rfl hown3)).drop ⟨1,0,st.cnt 1 0⟩
   rw[aF5]
   refine⟨?_,hb.trans (sE hB3)⟩
   have hen:(st2.en.set ⟨1,0,st.cnt 1 0⟩ (some (.loop fr3 ps3 la3 lb3 .over))).set ⟨1,0,st.cnt 1 0⟩ none=st2.en.set ⟨1,0,st.cnt 1 0⟩ none:=by
    funext k';simp only[En.set];split<;>rfl
   have hw':Rel P Ξ2 B S G3 {fr:=st.fr,en:=st2.en.set ⟨1,0,st.cnt 1 0⟩ none,cnt:=st2.cnt} N a0 (jR w3 W0.heap.size (.loop {rec3 with state:= .exhausted})):=by
    rw[<-hen];exact hw
   exact⟨hw'.size,hw'.tmps,hw'.frame,hw'.marks,hw'.ents,hw'.freshEn,hw'.freshG,hw'.own,fun u z hu=>hw'.extra u z (hu.imp_left .inl),hw'.round,hw'.defs,hw'.virt⟩
  have hst:({fr:=st2.fr,en:=st2.en.set ⟨1,0,st.cnt 1 0⟩ none,cnt:=st2.cnt}:St)={fr:=st.fr,en:=st2.en.set ⟨1,0,st.cnt 1 0⟩ none,cnt:=st2.cnt}:=by rw[hfr]
  split at hx
  ·rename_i he3;obtain⟨rec3,hh3,hq3,hfin⟩:=done he3 (by simp)
   obtain⟨r1,r2⟩:=hfin (by rw[hq3.1];simp)
   simp only[bN7,bOb]at hx;obtain⟨rfl,rfl⟩:=hx
   refine⟨_,_,run_endLoop hh3 (by rw[hq3.1];simp),?_⟩
   have hq:=hQ a0 _ G3 undef trivial (by rw[hst];exact r1.e) r2
   split
   ·exact hq
   ·rename_i c hc;rw[hq3.2]at hc;cases hc
  ·rename_i e3 he3;obtain⟨rec3,hh3,hq3,hfin⟩:=done he3 (by simp)
   obtain⟨r1,r2⟩:=hfin (by rw[hq3.1];simp)
   simp only[bN7,bOb]at hx;obtain⟨rfl,rfl⟩:=hx
   refine⟨_,_,run_endLoop hh3 (by rw[hq3.1];simp),?_⟩
   have hq:=hQ a0 _ G3 undef (by cases e3<;>first|trivial|(have:=hq3.2.2.2;cases this)) (by rw[hst];exact r1.e) r2
   split
   ·rename_i hc;rw[hq3.2.1]at hc;cases hc
   rename_i c hc;rw[hq3.2.1,bN7]at hc;subst hc;cases e3 with
   |normal=>exact absurd rfl hq3.2.2.1
   |panic v=>have:=hq3.2.2.2;cases this
   |exit id=>exact wpIn_exit hq
   |ret=>exact wpIn_ret hq
  ·cases hx
variable {a:Act}
theorem aSk {L:bG}(hL:oX P L)(hF:aEz P L n){g:Operand}{g':Opd}
    (hg:aO g=some g') (hps:ps.toList.all (· <N)=true) (haN:(cA P I ca).dstOk N=true) (hbN:(cA P I cb).dstOk N=true) (hnm:Ξ.nm=false) (hR:Rel P Ξ B S G st N a w)
  (hx:mP L (exec L n) (St.get st.fr g') ps.toList (cA P I ca) (cA P I cb) st=some (e,st')) (hQ: ∀a' w' G' x,e.val x->aEy P Ξ B S G' st' N e a' w'->Below B w w'->Q (e.toExit x) a' w'):
  (Code.rangeFunc g ps ca cb).wpIn (Fx Ξ.ro) m P Q a w:=by
 unfold mP at hx
 split at hx
 case h_2=>cases hx
 rename_i f x y hgv;have hG:=aT hR hg;rw[hgv]at hG;generalize hgF:a.eval g=uF at hG;cases hG with
 |fn _ _ _ p q hp hq hvp hvq=>
 simp only at hx
 obtain⟨⟨fn,hfn,hnm1,hbody⟩,hcx⟩:(∃fn,P.funcs[f]?=some fn∧(fn.name== "runtime.NumGoroutine")=false∧fn.body.isNone=false)∧((∃v st2,yU L (exec L n) f (x++[.yld ⟨1,0,st.cnt 1 0⟩]++y) {fr:=st.fr,en:=st.en.set ⟨1,0,st.cnt 1 0⟩ (some (.loop st.fr ps.toList (cA P I ca) (cA P I cb) .ready)),cnt:=aC st.cnt 1 0 (st.cnt 1 0+1)}=some (v,st2)∧
   (match st2.en ⟨1,0,st.cnt 1 0⟩with
   |some (.loop _ _ _ _ .ready)=>some (.normal,{st2 with en:=st2.en.set ⟨1,0,st.cnt 1 0⟩ none})
   |some (.loop _ _ _ _ (.done e))=>some (e,{st2 with en:=st2.en.set ⟨1,0,st.cnt 1 0⟩ none})
   |_=>none:Option (Ex×St))=some (e,st')) \/
   ∃v st2,dS L (exec L n) f (x++[.yld ⟨1,0,st.cnt 1 0⟩]++y) {fr:=st.fr,en:=st.en.set ⟨1,0,st.cnt 1 0⟩ (some (.loop st.fr ps.toList (cA P I ca) (cA P I cb) .ready)),cnt:=aC st.cnt 1 0 (st.cnt 1 0+1)}=some (v,st2)/\
    e= .panic v/\ st'={st2 with en:=st2.en.set ⟨1,0,st.cnt 1 0⟩ none}):=by
  split at hx
  ·rename_i v st2 hcall;exact⟨(aM3 hL hF _ _ _ _ _ hcall).1,.inl ⟨v,st2,hcall,hx⟩⟩
  ·split at hx
   case h_2=>cases hx
   rename_i v st2 hcall;simp only[bN7,bOb]at hx;exact⟨(aIh hL hF _ _ _ _ _ hcall).1,.inr ⟨v,st2,hcall,hx.1.symm,hx.2.symm⟩⟩
 have hnm': ¬fn.name= "runtime.NumGoroutine" :=by simpa using hnm1
 have hbody': ¬fn.body=none:=by intro h;rw[h]at hbody;cases hbody
 have call: ∀(l:Nat) (W:World),(resolve a.eval (rangeCall g l) 0).run P W= .ok {target:= .fn (.func f) q,args:=p++ #[.func (.yield l) #[] #[]]} W/\
   (invoke (.fn (.func f) q) (p++ #[.func (.yield l) #[] #[]])).run P W= .ok (.enter f (p++ #[.func (.yield l) #[] #[]]++q)) W:=by
  intro l W;constructor
  ·have hc:a.eval (.const (.func (.yield l) #[] #[]))= .func (.yield l) #[] #[]:=rfl;simp[resolve,rangeCall,hgF,Deferred.ofValue,hc]
  ·simp[invoke,callFunc,hfn,hnm',hbody']
 refine wpIn_rangeFunc fun fnid _=>?_
 have below_vr: ∀{W:World},Below w.heap.size w W->(∀i,i<x.length->VR (aW B S G W.heap.size) G W (x.getD i .dead) (p.getD i undef))/\ ∀i,i<y.length->VR (aW B S G W.heap.size) G W (y.getD i .dead) (q.getD i undef):=
  fun hb=>⟨fun i hi=>(hvp i hi).mono (qA hb),fun i hi=>(hvq i hi).mono (qA hb)⟩
 cases hro:Ξ.ro with
 |none=>
  have hb0:Below w.heap.size w (w.alloc (.deferred (some []))):=(Below.refl _ w).alloc (bN9 _) _;have hR0:=hR.below hb0;obtain⟨Ds,d1,d2,d3⟩:=hR0.marks;have hnew:(w.alloc (.deferred (some []))).heap[w.heap.size]?=some (.deferred (some [])):=eW _ _;have hold: ∀D∈Ds,D<w.heap.size:=fun D hD=>by
   obtain⟨Ds',d1',d2',d3'⟩:=hR.marks;have:Ds.map wY=Ds'.map wY:=List.append_cancel_right (by rw[<-d1,<-d1'])
   have hm:wY D∈Ds'.map wY:=by rw[<-this];exact bO5.2 ⟨D,hD,rfl⟩
   obtain⟨D',h1,h2⟩:=bO5.1 hm;have:D'=D:=by simpa[wY]using h2
   subst this;exact dP (d3' _ h1).2.2
  have hR1:Rel P Ξ B S G st N {a with defers:=[wY w.heap.size]++a.defers} (w.alloc (.deferred (some []))):=
   ⟨hR0.size,hR0.tmps,hR0.frame,⟨w.heap.size::Ds,by simp[d1],⟨by rw[List.nodup_cons];exact⟨fun h=>by have:=hold _ h;omega,d2.1⟩,fun h=>by rw[hnm]at h;cases h⟩,fun D hD=>by
     rcases bO8.1 hD with rfl|hD
     ·exact⟨hR.size,fun h=>by have:=dP (hR.defs _ h);omega,hnew⟩
     ·exact d3 D hD⟩,hR0.ents,hR0.freshEn,hR0.freshG,hR0.own,hR0.extra,hR0.round,hR0.defs,hR0.virt⟩
  obtain⟨v1,v2⟩:=below_vr hb0
  refine⟨_,_,_,_,_,f,_,_,by rw[show(Fx none).round=none from rfl];exact run_enterLoop_outer fnid a.tmps ps ca cb,(call _ _).1,fun _ _=>trivial,(call _ _).2,fun h=>by simp[Fx,Fence.wide]at h,?_⟩
  have:=aIl hL hF (Q:=Q) (m:=m) hps haN hbN hR1 (Below.mono hb0 hR.size) hp hq v1 v2 hcx hQ {state:= .ready,pending:=none,fn:=fnid,tmps:=a.tmps,params:=ps,assign:=ca,body:=cb,defers:=w.heap.size} ⟨rfl,rfl,rfl,rfl,rfl,rfl⟩ (m-1);rw[hro,size_alloc]at this;exact this
 |some l0=>
  obtain⟨r0,hr0⟩:=hR.round l0 (.inl hro)
  refine⟨_,_,_,_,_,f,_,_,by rw[show(Fx (some l0)).round=some l0 from rfl];exact run_enterLoop_inner hr0 fnid a.tmps ps ca cb,(call _ _).1,fun _ _=>trivial,(call _ _).2,fun h=>by simp[Fx,Fence.wide]at h,?_⟩
  have:=aIl hL hF (Q:=Q) (m:=m) hps haN hbN hR (Below.refl _ _) hp hq hvp hvq hcx hQ {state:= .ready,pending:=none,fn:=fnid,tmps:=a.tmps,params:=ps,assign:=ca,body:=cb,defers:=r0.defers} ⟨rfl,rfl,rfl,rfl,rfl,rfl⟩ (m-1);rw[hro]at this;exact this
variable {c:Code}{cs:List Frame}
section
variable {b:Frame}{k:List Item}{F:Fence}
theorem mW :Go.step P (lone (b.atR a (.code (.scope c)::k)) cs w)= .next (lone (b.atR a (.code c:: .inScope c::k)) cs w):=
 step_lone_go (by simp[stepG,stepG.exec,Frame.atR])
theorem aIm :Go.step P (lone (b.atR a (.inScope c::k)) cs w)= .next (lone (b.atR a k) cs w):=
 step_lone_go (by simp[stepG,stepG.exec,Frame.atR])
theorem aPh (h:c.wpIn F n P (Exit.noGoto Q) a w):(Code.scope c).wpIn F n P Q a w:=by
 intro b k cs hro hb hr;have h0:(lone (b.atR a (.code (.scope c)::k)) cs w).fenced P F:=fenced_calm hb hr rfl;obtain⟨e,a₁,w₁,hq,harr⟩:=h b (.inScope c::k) cs hro hb hr;cases e with
 |normal=>exact⟨.normal,a₁,w₁,hq,.head h0 mW (StepsIn.trans harr (.one (fenced_calm hb hr rfl) aIm))⟩
 |exit id'=>
  have hx:exitTo id' (.inScope c::k)=exitTo id' k:=by simp[exitTo]
  exact⟨.exit id',a₁,w₁,hq,fun k' hk=> .head h0 mW (harr.1 k' (by rw[hx];exact hk)),
   fun hr' hk=>let ⟨k₁,h1,h2⟩:=harr.2 hr' (by rw[hx];exact hk);⟨k₁,h1,.head h0 mW h2⟩⟩
 |goto l=>exact hq.elim
 |ret=>exact⟨_,a₁,w₁,hq,.of_steps (.one h0 mW) harr⟩
 |panic ch=>exact⟨_,a₁,w₁,hq,.of_steps (.one h0 mW) harr⟩
 |outgrown=>exact⟨_,a₁,w₁,hq,.of_steps (.one h0 mW) harr⟩
end
theorem aVb (hm:P.follows .mixedOrders=true){L:bG}(hL:oX P L)(hc:kU P (bK L 8 (exec L n)))(hF:aEz P L n)(ihs: ∀m,m<=n->vA P L m):vA P L (n+1):=by
 have ih:=ihs n (bN9 _);have hio:=aXz hL hF ih;intro I N c
 induction c<;>intro st e st' Ξ B S G a w Q m hd hnr hR hx hQ
 case skip=>
  simp only[cA,exec,bN7,bOb]at hx;obtain⟨rfl,rfl⟩:=hx;exact wpIn_skip (hQ a w G undef trivial hR.e (Below.refl _ _))
 case label l=>
  simp only[cA,exec,bN7,bOb]at hx;obtain⟨rfl,rfl⟩:=hx;exact wpIn_label (hQ a w G undef trivial hR.e (Below.refl _ _))
 case region id ops dr=>
  cases dr with
  |false=>
   simp only[cA,bOa,if_false]at hd hx;cases hlow:cM (eR P I ops) ops.toList with
   |none=>rw[hlow]at hx;exact(wA hx).elim
   |some l=>
    rw[hlow]at hx hd;simp only[bO0,bOz]at hx hd;cases hX:l.any (aC1 I)with
    |true=>
     simp only[hX,if_true]at hx hd;rw[exec]at hx
     refine wpIn_region ?_
     rw[bRc];exact aSe hc hio (aSj hL hF) (aIh hL hF) hlow hd ops.size 0 st st' e G a w (by omega) hR (by simpa using hx) hQ
    |false=>
    simp only[hX,bOa,if_false]at hx hd;rw[exec]at hx;obtain⟨s1,hrun,he⟩:=bOj.1 hx;simp only[bOb]at he;obtain⟨rfl,rfl⟩:=he
    refine wpIn_region ?_
    rw[bRc];exact aU7 hc hio hlow hd ops.size 0 st s1 G a w (by omega) hR (by simpa using hrun) fun a' w' G' h1 h2=>hQ a' w' G' undef trivial h1.e h2
  |true=>
   simp only[cA,if_true]at hd hx;cases hld:aMk P I ops with
   |none=>rw[hld]at hx;exact(wA hx).elim
   |some c'=>
    rw[hld]at hx hd;simp only[aMk,bOu,bOi,bOw,bN7]at hld;obtain⟨l,hlow,an,han,ps,hps,rfl⟩:=hld;have hb:Below w.heap.size w {w with drawn:=w.drawn+1}:=(Below.refl _ w).drew;have hd':l.all (fun o=>o.dst.all (· <N))=true:=by
     cases hX:l.any (aC1 I)with
     |false=>simpa[hX,bA.dstOk]using hd
     |true=>
      cases hlt:aRt an l<;>simpa[hX,hlt,bA.dstOk]using hd
    have drawOk: ∀s1 rs,iL 8 (bK L 8 (exec L n)) (eJ L (exec L n)) 0 l st=some (s1,rs)->dG rs ps=true->e= .normal->st'=s1->(Code.region id ops true).wpIn (Fx Ξ.ro) m P Q a w:=by
     rintro s1 rs hrun hok rfl rfl
     refine wpIn_region_any hm (aU8 (Ξ:=Ξ) (B:=B) (S:=S) hc hio hlow hd' han hps hrun hok ops.size (Array.replicate ops.size false) G a _ (by simp) ?_ ?_ ?_ ?_)
     ·refine bOk bRh (by simp)
     ·intro j o ho hL;simp[bPz]at hL
      split at hL<;>simp at hL
     ·rw[cE (L':=fun _=>false) fun i _=>by simp[bPz];split<;>simp]
      have: ∀(k:Nat),dC (fun k=>eD (l.getD k default) (rs.getD k bZ)) (fun _=>false) st k=st:=by
       intro k;induction k with
       |zero=>rfl
       |succ k ih=>simp only[dC,bOa,if_false];exact ih
      rw[this];exact hR.below hb
     ·exact fun a' w' G' h1 h2=>hQ a' w' G' undef trivial h1.e ⟨h2.os,h2.tape,h2.output,h2.size,h2.block⟩
    cases hX:l.any (aC1 I)with
    |true=>
     simp only[hX,if_true,bOz]at hx;cases hlt:aRt an l with
     |some A=>
      simp only[hlt]at hx;rw[exec]at hx;have hlate:=List.find?_some hlt;have hA:A<l.length:=bO7.1 (List.mem_of_find?_eq_some hlt);simp only[aW6,bN8,bQ6,bQ7,bPs]at hlate;obtain⟨⟨⟨⟨_,hg⟩,hop⟩,d,hdst⟩,_⟩:=hlate;obtain⟨z,hAo⟩: ∃z,l.getD A default={dst:=some d,op:= .alloc z,guard:=none}:=by
       generalize l.getD A default=o at hg hop hdst;obtain⟨od,oo,og⟩:=o
       simp only at hg hop hdst
       subst hg hdst;cases oo<;>first|exact⟨_,rfl⟩|cases hop
      have hkey:gW st (l.getD A default)=⟨0,d,st.cnt 0 d⟩:=by rw[hAo];rfl
      have hz:aK6 (l.getD A default).op=z:=by rw[hAo];rfl
      rw[hkey,hz]at hx;have hvk: ¬Ξ.virt ⟨0,d,st.cnt 0 d⟩:=fun hv=>by have:=(hR.virt _ hv).2;simp at this
      have hR':=(hR.below hb).reserve (k:=⟨0,d,st.cnt 0 d⟩) (z:=z) rfl;have hek:(uH ⟨0,d,st.cnt 0 d⟩ z st).en ⟨0,d,st.cnt 0 d⟩=some (.box z false):=by simp[uH,En.set]
      unfold vS at hx
      split at hx
      ·rename_i j hj
       split at hx
       case h_2=>cases hx
       rename_i s1 rs hrun
       split at hx
       case isFalse=>cases hx
       rename_i hck;rw[bN8]at hck
       split at hx
       case h_2=>cases hx
       rename_i v s2 hpj;simp only[bN7,bOb]at hx;obtain⟨rfl,rfl⟩:=hx;have hjl:j<l.length:=by have:=aIf _ hj;rw[oY]at this;omega
       have hjA:j≠A:=by
        rintro rfl
        rw[tB hA,if_pos rfl]at hpj;simp[dH,yE,wanted]at hpj
       exact wpIn_region_any hm (aVa (Ξ:=Ξ) (B:=B) (S:=S) hc hio (aSj hL hF) (aIh hL hF) hlow hd' han hps hA hAo hvk rfl hjl hjA hrun hck.1 hck.2 hek hpj hR'
        fun a' w' G' x h1 h2 h3=>hQ a' w' G' x h1 h2 ⟨h3.os,h3.tape,h3.output,h3.size,h3.block⟩)
      ·split at hx
       case h_2=>cases hx
       rename_i s1 rs hrun
       split at hx
       case isFalse=>cases hx
       rename_i hck;rw[bN8]at hck;simp only[bN7,bOb]at hx;obtain⟨rfl,rfl⟩:=hx
       refine wpIn_region_any hm (aXy (Ξ:=Ξ) (B:=B) (S:=S) hc hio hlow hd' han hps hA hAo hvk hrun hck.1 hck.2 hek ops.size (Array.replicate ops.size false) G a _ (by simp) ?_ ?_ ?_ ?_)
       ·refine bOk bRh (by simp)
       ·intro j o ho hL;simp[bPz]at hL
        split at hL<;>simp at hL
       ·rw[cE (L':=fun _=>false) fun i _=>by simp[bPz];split<;>simp]
        have: ∀(k:Nat),dC (fun k=>eD ((iO A ⟨0,d,st.cnt 0 d⟩ l).getD k default) (rs.getD k bZ)) (fun _=>false) (uH ⟨0,d,st.cnt 0 d⟩ z st) k=uH ⟨0,d,st.cnt 0 d⟩ z st:=by
         intro k;induction k with
         |zero=>rfl
         |succ k ih=>simp only[dC,bOa,if_false];exact ih
        have hf: ¬(Array.replicate ops.size false).getD A false=true:=by
         rw[bOl,bPz]
         split<;>simp
        rw[this,if_neg hf];exact hR'
       ·exact fun a' w' G' h1 h2=>hQ a' w' G' undef trivial h1.e ⟨h2.os,h2.tape,h2.output,h2.size,h2.block⟩
     |none=>
     simp only[hlt]at hx;rw[exec]at hx
     split at hx
     ·rename_i j hj;exact wpIn_region_any hm (aSg (Ξ:=Ξ) (B:=B) (S:=S) hc hio (aSj hL hF) (aIh hL hF) hlow hd' han hps (by have:=aIf _ hj;omega) hx (hR.below hb)
       fun a' w' G' x h1 h2 h3=>hQ a' w' G' x h1 h2 ⟨h3.os,h3.tape,h3.output,h3.size,h3.block⟩)
     ·split at hx
      case h_2=>cases hx
      rename_i s1 rs hrun
      split at hx
      case isFalse=>cases hx
      rename_i hok;simp only[bN7,bOb]at hx;exact drawOk s1 rs hrun hok hx.1.symm hx.2.symm
    |false=>
     simp only[hX,bOa,if_false,bOz]at hx;rw[exec]at hx
     split at hx
     case h_2=>cases hx
     rename_i s1 rs hrun
     split at hx
     case isFalse=>cases hx
     rename_i hok;simp only[bN7,bOb]at hx;exact drawOk s1 rs hrun hok hx.1.symm hx.2.symm
 case seq x y _ _=>
  simp only[cA,bA.dstOk,bN8]at hd;simp only[cA,exec]at hx
  refine wpIn_seq ?_
  cases h1:exec L n (cA P I x) st with
  |none=>rw[h1]at hx;cases hx
  |some p=>
   obtain⟨e1,s1⟩:=p;rw[h1]at hx;have hnr1:Ξ.nm=true->(cA P I x).noRg=true/\ (cA P I y).noRg=true:=fun h=>by simpa[cA,bA.noRg]using hnr h
   refine ih I N x st e1 s1 Ξ B S G a w _ m hd.1 (fun h=>(hnr1 h).1) hR h1 fun a1 w1 G1 x1 hx1 hR1 hb1=>?_
   cases e1 with
   |panic v=>simp only[bN7,bOb]at hx;obtain⟨rfl,rfl⟩:=hx;exact hQ a1 w1 G1 x1 hx1 hR1 hb1
   |normal=>exact ih I N y s1 e st' Ξ B S G1 a1 w1 _ m hd.2 (fun h=>(hnr1 h).2) (hR1.rel rfl) hx fun a2 w2 G2 x2 hx2 hR2 hb2=>hQ a2 w2 G2 x2 hx2 hR2 (hb1.trans hb2)
   |exit id=>simp only[bN7,bOb]at hx;obtain⟨rfl,rfl⟩:=hx;exact hQ a1 w1 G1 x1 trivial hR1 hb1
   |ret=>simp only[bN7,bOb]at hx;obtain⟨rfl,rfl⟩:=hx;exact hQ a1 w1 G1 x1 trivial hR1 hb1
 case cond z x y _ _=>
  simp only[cA]at hd hx;cases hz':aO z with
  |none=>rw[hz']at hx;exact(wA hx).elim
  |some z'=>
   rw[hz']at hx hd;simp only[bA.dstOk,bN8]at hd;have hnr1:Ξ.nm=true->(cA P I x).noRg=true/\ (cA P I y).noRg=true:=fun h=>by simpa[cA,hz',bA.noRg]using hnr h
   simp only[exec]at hx;have hv:=aT hR hz'
   split at hx
   ·rename_i hz;rw[hz]at hv;have:a.eval z= .bool true:=by generalize a.eval z=q at hv;cases hv;rfl
    exact wpIn_cond_true this (ih I N x st e st' Ξ B S G a w Q m hd.1 (fun h=>(hnr1 h).1) hR hx hQ)
   ·rename_i hz;rw[hz]at hv;have:a.eval z= .bool false:=by generalize a.eval z=q at hv;cases hv;rfl
    exact wpIn_cond_false this (ih I N y st e st' Ξ B S G a w Q m hd.2 (fun h=>(hnr1 h).2) hR hx hQ)
   ·cases hx
 case block id x _=>
  simp only[cA,bA.dstOk]at hd;simp only[cA,exec]at hx
  refine wpIn_block ?_
  cases h1:exec L n (cA P I x) st with
  |none=>rw[h1]at hx;cases hx
  |some p=>
   obtain⟨e1,s1⟩:=p;rw[h1]at hx
   refine ih I N x st e1 s1 Ξ B S G a w _ m hd (fun h=>by simpa[cA,bA.noRg]using hnr h) hR h1 fun a1 w1 G1 x1 hx1 hR1 hb1=>?_
   cases e1 with
   |panic v=>simp only[bN7,bOb]at hx;obtain⟨rfl,rfl⟩:=hx;exact hQ a1 w1 G1 x1 hx1 hR1 hb1
   |normal=>simp only[bN7,bOb]at hx;obtain⟨rfl,rfl⟩:=hx;exact hQ a1 w1 G1 x1 trivial hR1 hb1
   |exit id'=>
    simp only at hx
    simp only[Ex.toExit,Exit.inBlock]
    split at hx
    ·rename_i he;rw[if_pos he];simp only[bN7,bOb]at hx;obtain⟨rfl,rfl⟩:=hx;exact hQ a1 w1 G1 x1 trivial hR1 hb1
    ·rename_i he;rw[if_neg he];simp only[bN7,bOb]at hx;obtain⟨rfl,rfl⟩:=hx;exact hQ a1 w1 G1 x1 trivial hR1 hb1
   |ret=>simp only[bN7,bOb]at hx;obtain⟨rfl,rfl⟩:=hx;exact hQ a1 w1 G1 x1 trivial hR1 hb1
 case loop x _=>
  simp only[cA,bA.dstOk]at hd;simp only[cA]at hx;have key: ∀k s1 G1 a1 w1,k<=n+1->Rel P Ξ B S G1 s1 N a1 w1->exec L k (.loop (cA P I x)) s1=some (e,st')->Below B w w1->Code.roundsIn (Fx Ξ.ro) m P x Q k a1 w1:=by
   intro k
   induction k with
   |zero=>intro s1 G1 a1 w1 _ _ hx1 _;simp[exec]at hx1
   |succ k ihk=>
    intro s1 G1 a1 w1 hk hR1 hx1 hb1;simp only[exec]at hx1;rw[roundsIn_succ];cases h1:exec L k (cA P I x) s1 with
    |none=>rw[h1]at hx1;cases hx1
    |some p=>
     obtain⟨e1,s2⟩:=p;rw[h1]at hx1
     refine ihs k (by omega) I N x s1 e1 s2 Ξ B S G1 a1 w1 _ m hd (fun h=>by simpa[cA,bA.noRg]using hnr h) hR1 h1 fun a2 w2 G2 x2 hx2 hR2 hb2=>?_
     cases e1 with
     |panic v=>simp only[bN7,bOb]at hx1;obtain⟨rfl,rfl⟩:=hx1;exact hQ a2 w2 G2 x2 hx2 hR2 (hb1.trans hb2)
     |normal=>exact ihk s2 G2 a2 w2 (by omega) (hR2.rel rfl) hx1 (hb1.trans hb2)
     |exit id=>simp only[bN7,bOb]at hx1;obtain⟨rfl,rfl⟩:=hx1;exact hQ a2 w2 G2 x2 trivial hR2 (hb1.trans hb2)
     |ret=>simp only[bN7,bOb]at hx1;obtain⟨rfl,rfl⟩:=hx1;exact hQ a2 w2 G2 x2 trivial hR2 (hb1.trans hb2)
  exact wpIn_loop_rounds (n+1) (key (n+1) st G a w (bN9 _) hR hx (Below.refl _ _))
 case exit id=>
  simp only[cA,exec,bN7,bOb]at hx;obtain⟨rfl,rfl⟩:=hx;exact wpIn_exit (hQ a w G undef trivial hR.e (Below.refl _ _))
 case ret=>
  simp only[cA,exec,bN7,bOb]at hx;obtain⟨rfl,rfl⟩:=hx;exact wpIn_ret (hQ a w G undef trivial hR.e (Below.refl _ _))
 case rangeFunc g ps ca cb _ _=>
  simp only[cA]at hd hx;cases hg:aO g with
  |none=>rw[hg]at hx;exact(wA hx).elim
  |some g'=>
   rw[hg]at hx hd;simp only[bA.dstOk,bN8]at hd;simp only[exec]at hx;have hnm:Ξ.nm=false:=by
    cases h:Ξ.nm with
    |false=>rfl
    |true=>have:=hnr h;simp[cA,hg,bA.noRg]at this
   exact aSk hL hF hg hd.1.1 hd.1.2 hd.2 hnm hR hx hQ
 case scope x ihx=>
  refine aPh (ihx st e st' Ξ B S G a w _ m hd hnr hR hx fun a1 w1 G1 x1 hx1 hR1 hb1=>?_)
  have:=hQ a1 w1 G1 x1 hx1 hR1 hb1;cases e<;>exact this
 all_goals (simp only[cA]at hx;exact(wA hx).elim)
def Ex.mode (x:Value):Ex->FrameMode
 | .panic _=> .panicking (xI x)
 |_=> .returning
theorem Ex.mode_run {x:Value}:e.mode x≠ .run:=by cases e<;>simp[Ex.mode]
variable {lc:bA}{ops:Array Oper}{ts:List Nat}
theorem aPi {k:Call}{y:Code}(h:aRu P I ts ops k y=some lc):
  ∃F f args l,k.callee= .value F/\ aO F=some f/\ iW k.args.toList=some args/\ cM (eR P I ops) ops.toList.dropLast=some l/\ lc= .dfr ts l f args (cA P I y):=by
 simp only[aRu]at h
 split at h
 case h_2=>cases h
 rename_i F hF
 split at h
 case h_2=>cases h
 rename_i f args l h1 h2 h3;simp only[bN7]at h;exact⟨F,f,args,l,hF,h1,h2,h3,h.symm⟩
theorem aX0 (h:aAt P I ts c=some lc):lc.isRcv=false:=by
 cases c<;>simp only[aAt,reduceCtorEq]at h
 split at h
 ·obtain⟨_,_,_,_,_,_,_,_,rfl⟩:=aPi h;rfl
 ·split at h
  ·simp only[bN7]at h;subst h;rfl
  ·cases h
variable {l:List aM}
theorem bAt {dst:Option Nat}{b:bA}(h:aC3 P I ts c=some (.rcv dst l b)):
  ∃id ops c' o iT,c= .seq (.region id ops false) c'/\ ops.toList=o::iT/\ aEs o=true/\ iT.all aMl=true/\ cM (eR P I ops) iT=some l/\ dst=o.dst/\ b=cA P I c'/\ (cA P I c').noRg=true:=by
 simp only[aC3]at h
 split at h
 ·rename_i x hx;simp only[bN7]at h;subst h;unfold aRv at hx
  split at hx
  case h_2=>cases hx
  rename_i id ops c'
  split at hx
  case h_2=>cases hx
  rename_i o iT ho
  split at hx
  case isFalse=>cases hx
  rename_i hc;simp only[bN8]at hc;obtain⟨l',hl,he⟩:=bOj.1 hx;simp only[bA.rcv.injEq]at he;obtain⟨rfl,rfl,rfl⟩:=he;exact⟨_,ops,c',o,iT,rfl,ho,hc.1.1,hc.1.2,hl,rfl,rfl,hc.2⟩
 ·split at h
  ·rename_i x hx;simp only[bN7]at h;subst h;have:=aX0 hx;cases this
  ·split at h
   ·cases h
   ·rename_i hn;simp only[bN7]at h;rw[h]at hn;simp[bA.isRcv]at hn
variable {call:bC}{io:Inl}
section
variable {ro:Option Nat}
theorem bAu (hcall:kU P call)(hio:vY P io)(hl: ∀i (h:i<l.length),∃h':i<ops.size,eR P I ops ops[i]=some l[i])(hd:l.all (fun o=>o.dst.all (· <N))=true){iT:List Nat}:
  ∀(k i:Nat) (st st':St) (G:Gh) (a:Act) (w:World),i+k=l.length->Rel P Ξ B S G st N a w->fR n call io 0 (l.drop i) st=some st'->
   (∀a' w' G',Rel P Ξ B S G' st' N a' w'->Below B w w'->wpOpsIn (Fx ro) m P ops Q iT a' w')->wpOpsIn (Fx ro) m P ops Q (List.range' i k++iT) a w:=by
 intro k
 induction k with
 |zero=>
  intro i st st' G a w hik hR hrun hQ;have:l.drop i=[]:=bRf.2 (by omega)
  rw[this]at hrun;simp only[fR,bN7]at hrun;subst hrun;exact hQ a w G hR (Below.refl _ _)
 |succ k ih=>
  intro i st st' G a w hik hR hrun hQ;have hil:i<l.length:=by omega
  obtain⟨hi,hlow⟩:=hl i hil;rw[bO9 hil]at hrun;simp only[fR]at hrun
  split at hrun
  case h_2=>cases hrun
  rename_i st1 r hs;rw[bQ5,bQj,wpOpsIn_cons];unfold wpOpIn;rw[bOv hi];exact nY hcall hio hR hlow (bOe.1 hd _ (bOg hil)) hs fun a' w' G' h1 h2=>
   ih (i+1) st1 st' G' a' w' (by omega) h1 hrun fun a'' w'' G'' h3 h4=>hQ a'' w'' G'' h3 (h2.trans h4)
theorem aPj (hl: ∀i (h:i<l.length),∃h':i+1<ops.size,aMl ops[i+1]=true/\ eR P I ops ops[i+1]=some l[i])(hd:l.all (fun o=>o.dst.all (· <N))=true){Q:Exit->Act->List Frame->World->Prop}:
  ∀(k i:Nat) (st st':St) (G:Gh) (a:Act),i+k=l.length->Rel P Ξ B S G st N a w->fR n call io 0 (l.drop i) st=some st'->
   (∀a' G',Rel P Ξ B S G' st' N a' w->Q .normal a' cs w)->wpOpsSIn Fence.wide m P ops Q (List.range' (i+1) k) a cs w:=by
 intro k
 induction k with
 |zero=>
  intro i st st' G a hik hR hrun hQ;have:l.drop i=[]:=bRf.2 (by omega)
  rw[this]at hrun;simp only[fR,bN7]at hrun;subst hrun;exact hQ a G hR
 |succ k ih=>
  intro i st st' G a hik hR hrun hQ;have hil:i<l.length:=by omega
  obtain⟨hi,hmv,hlow⟩:=hl i hil;rw[bO9 hil]at hrun;simp only[fR]at hrun
  split at hrun
  case h_2=>cases hrun
  rename_i st1 r hs;have hdi:=bOe.1 hd _ (bOg hil);rw[bQ5];simp only[wpOpsSIn,bOv hi]
  refine⟨fun _ _=>trivial,?_⟩
  simp only[eR,bOu,bOi,bOw,bN7]at hlow;obtain⟨lop,hop,g,hg,he⟩:=hlow;have hmv': ∃x,(ops[i+1].op= .assign x \/ops[i+1].op= .move x)/\ ops[i+1].guard=none:=by
   unfold aMl at hmv
   split at hmv
   ·rename_i h1 h2;exact⟨_,.inl h1,h2⟩
   ·rename_i h1 h2;exact⟨_,.inr h1,h2⟩
   ·cases hmv
  obtain⟨x,hx,hgd⟩:=hmv';have hw:Region.wanted ops[i+1] (yielded ops a.tmps)=true:=by simp[Region.wanted,hgd]
  have hrun1:(execOp a.eval ops[i+1]).run P w= .ok (.value (a.eval x)) w:=by
   rcases hx with hx|hx<;>simp[execOp,hx]
  obtain⟨y,hy,hlop⟩: ∃y,aO x=some y/\ lop= .mv y:=by
   rcases hx with hx|hx<;>rw[hx]at hop<;>(obtain⟨y,h1,h2⟩:=bOj.1 hop;exact⟨y,h1,h2.symm⟩)
  have hg':g=none:=by rw[hgd]at hg;simpa[yW]using hg.symm
  rw[<-he,hlop,hg']at hs;rw[<-he]at hdi;simp only[step,wanted,eval,bOx,bOa,if_false,W.applyAll,bQl,bN7,bOb]at hs;obtain⟨rfl,rfl⟩:=hs;simp only[hw,if_true,hrun1];exact ih (i+1) _ st' G _ (by omega) (hR.putO' ops[i+1].dst (aT hR hy) hdi) hrun hQ
end
theorem aPk {L:bG}(hL:oX P L)(hE:vA P L n)(hcall:kU P (bK L 8 (exec L n)))(hio:vY P (eJ L (exec L n))){g:Nat}{A Z:List Val}
  (h:gK L (exec L n) (.fn g A Z) args e st=some st'):st'.fr=st.fr∧(∃fn,P.funcs[g]?=some fn∧(fn.name== "runtime.NumGoroutine")=false∧fn.body.isNone=false)∧
  ∀(Ξ:Env) (B:Nat) (S:Nat->Nat->Prop) (G:Gh) (N:Nat) (a:Act) (w:World) (vals:Array Value) (x:Value) (m:Nat),e.val x->Rel P Ξ B S G st N a w->vals.size=(A++args++Z).length->
   (∀i,i<(A++args++Z).length->VR (aW B S G w.heap.size) G w ((A++args++Z).getD i .dead) (vals.getD i undef))->
   CallsDIn Fence.wide m P g vals (e.mode x) w fun ed u' w'=> ∃G' y,ed= .returned y/\ settle u'= .returning/\ Rel P Ξ B S G' st' N a w'/\ Below B w w':=by
 simp only[gK]at h
 split at h
 case h_2=>cases h
 rename_i lf hlf
 split at h
 case h_2=>cases h
 rename_i dst l cb v hbody hrv
 split at h
 case isFalse=>cases h
 rename_i hc;obtain⟨hlen,hres0⟩:=hc
 split at h
 case h_2=>cases h
 rename_i st1 hmoves
 split at h
 case h_2=>cases h
 rename_i e' st2 hx
 split at h
 case isFalse=>cases h
 rename_i hends;simp only[bN7]at h;subst h;obtain⟨fn,I,keep,amb,hfn,hlow⟩:=hL g lf hlf;obtain⟨c,hb,hlb,hdst,hnp,hname,hres⟩:=vZ hlow;rw[hbody]at hlb hdst;obtain⟨id,ops,c',o,iT,rfl,hops,hrec,hmv,hl,rfl,rfl,hnr⟩:=bAt hlb
 refine⟨rfl,⟨fn,hfn,hname,by rw[hb];rfl⟩,fun Ξ B S G N a w vals x m hxv hR hvl hv=>?_⟩
 simp only[bA.dstOk,bN8]at hdst;obtain⟨⟨hd1,hd2⟩,hd3⟩:=hdst;obtain⟨Ds0,q1,q2,q3⟩:=hR.marks;have hR1:=aE1 (st0:=st) (fn:=fn) (nm:=true) hR q3 rfl rfl hvl (by omega) hv
 have hsz:ops.size=iT.length+1:=by
  have:=congrArg List.length hops
  simpa using this
 have h0:ops[0]?=some o:=by
  have:ops.toList[0]?=some o:=by rw[hops];rfl
  simpa using this
 have hro: ∃cl,o.op= .call cl/\ cl.callee= .builtin .recover/\ o.guard=none:=by
  unfold aEs at hrec
  split at hrec
  ·rename_i cl h1 h2
   split at hrec
   ·rename_i h3;exact⟨cl,h1,h3,h2⟩
   ·cases hrec
  ·cases hrec
 obtain⟨cl,ho1,ho2,ho3⟩:=hro;obtain⟨m1,m2⟩:=eE hl
 refine callsDIn_of_wpSIn hfn hb trivial fun c₀ cs hmode=>?_
 refine wpSIn_seq (wpSIn_region ?_)
 rw[hsz,bRc,bQ5];simp only[wpOpsSIn,h0]
 refine⟨fun _ _=>trivial,?_⟩
 have hw:Region.wanted o (yielded ops (aPf fn vals).tmps)=true:=by simp[Region.wanted,ho3]
 have hrunr: ∀(ρ:Operand->Value) (w:World),(execOp ρ o).run P w= .ok .recover w:=by
  intro ρ w;simp[execOp,ho1,resolve,ho2,invoke,builtin]
 unfold aPf at hw;simp only[hw,if_true,hrunr];have behindR: ∀(y:Value) (u':FrameMode),settle u'= .returning->FV v y->
   wpOpsSIn Fence.wide m P ops (Exit.thenS (Code.wpSIn Fence.wide m P c' (bodyPostS P fn c₀ cs fun ed u' w'=> ∃G' y,ed= .returned y/\ settle u'= .returning/\ Rel P Ξ B S G' {fr:=st.fr,en:=st2.en,cnt:=st2.cnt} N a w'/\ Below B w w'))
    (bodyPostS P fn c₀ cs fun ed u' w'=> ∃G' y,ed= .returned y/\ settle u'= .returning/\ Rel P Ξ B S G' {fr:=st.fr,en:=st2.en,cnt:=st2.cnt} N a w'/\ Below B w w')) (List.range' (0+1) iT.length) ((aPf fn vals).put o.dst y) ({c₀ with mode:=u'}::cs) w:=by
  intro y u' hu' hvy;have hR2:=hR1.putO' o.dst (v:=v) (x:=y) (hvy _ _ _) hd1
  refine aPj (N:=fn.ntmps) (st':=st1) (G:=G) (n:=8) (call:=bK L 8 (exec L n)) (io:=eJ L (exec L n)) (l:=l) (I:=I) ?_ hd2 iT.length 0 _ _ (by rw[m1];omega) hR2 (by simpa using hmoves) fun a4 G4 hR4=>?_
  ·intro i hi;have hi':i<iT.length:=by omega
   have hi2:i+1<ops.size:=by omega
   have he:ops[i+1]=iT[i]:=by
    have:ops.toList[i+1]?=iT[i]?:=by rw[hops];rfl
    rw[bPh hi',Array.getElem?_toList,bOv hi2]at this;exact Option.some.inj this
   refine⟨hi2,?_,?_⟩
   ·rw[he];exact bOe.1 hmv _ (bOg hi')
   ·rw[he];exact m2 i hi' hi
  ·refine wpSIn_of_wpIn rfl ?_
   refine hE I fn.ntmps c' st1 e' st2 _ B S G4 a4 w _ m hd3 (fun _=>hnr) hR4 hx fun a5 w5 G5 x5 _ hR5 hb5=>?_
   have fin:e'.calm=true->a5.defers=[]/\ ∃u'',({c₀ with mode:=u'}::cs:List Frame)={c₀ with mode:=u''}::cs/\ ∃v,(results fn a5.tmps).run P w5= .ok v w5/\
     ∃G' y,Ending.returned v= .returned y/\ settle u''= .returning/\ Rel P Ξ B S G' {fr:=st.fr,en:=st2.en,cnt:=st2.cnt} N a w5/\ Below B w w5:=by
    intro hcalm;have hR6:=hR5.rel hcalm;obtain⟨Ds,r1,r2,r3⟩:=hR6.marks;have hDs:=r2.2 rfl;subst hDs;have hlr:lf.res=[]:=by simpa using hres0
    rw[hlr]at hres;obtain⟨y5,hy5,_⟩:=vB hR6 hres (vs:=[]) rfl;exact⟨by simpa using r1,u',rfl,y5,hy5,G5,y5,rfl,hu',aE2 (ste:=st2) hR.tmps q1 q2 (fun D hD=>⟨(q3 D hD).1,(q3 D hD).2.1⟩) hR6,hb5⟩
   cases e' with
   |normal=>exact fin rfl
   |ret=>exact fin rfl
   |exit id=>cases hends
   |panic v=>cases hends
 cases e with
 |panic vp=>
  simp only[Ex.mode]at hmode;simp only[Ex.rcvd,bN7]at hrv;subst hrv;have hrc:recoverD (c₀::cs)=some (x,{c₀ with mode:= .panicking [{v:=x,recovered:=true}]}::cs):=by simp[recoverD,hmode,xI]
  simp only[hrc];exact behindR x _ (by simp[settle]) hxv
 |exit id=>cases hrv
 |normal=>
  simp only[Ex.mode]at hmode;simp only[Ex.rcvd,bN7]at hrv;subst hrv;have hrc:recoverD (c₀::cs)=none:=by simp[recoverD,hmode]
  simp only[hrc];have:=behindR .nilIface .returning rfl (fun _ _ _=> .nili)
  have ec:({c₀ with mode:=FrameMode.returning}:Frame)=c₀:=by rw[<-hmode]
  rw[ec]at this;exact this
 |ret=>
  simp only[Ex.mode]at hmode;simp only[Ex.rcvd,bN7]at hrv;subst hrv;have hrc:recoverD (c₀::cs)=none:=by simp[recoverD,hmode]
  simp only[hrc];have:=behindR .nilIface .returning rfl (fun _ _ _=> .nili)
  have ec:({c₀ with mode:=FrameMode.returning}:Frame)=c₀:=by rw[<-hmode]
  rw[ec]at this;exact this
theorem aLh {α β:Type}{f g:α->Sem β}: ∀{l:List α},(∀x∈l,f x=g x)->l.mapM f=l.mapM g
 |[],_=>by simp
 |x::l,h=>by
  simp only[List.mapM_cons];rw[h x (by simp),aLh fun y hy=>h y (by simp[hy])]
variable {fn:Func}
theorem aM4 {tm tm':Array Value}(h: ∀t∈aC2 fn.results.toList,tm.getD t undef=tm'.getD t undef):results fn tm=results fn tm':=by
 have:(fn.results.mapM fun(rv:ResultVar)=>(match rv with
   | .tmp t=>(pure (tm.getD t undef):Sem Value)
   | .cell c t=>do loadVar t (<-asAddr (tm.getD c undef))))=(fn.results.mapM fun(rv:ResultVar)=>(match rv with
   | .tmp t=>(pure (tm'.getD t undef):Sem Value)
   | .cell c t=>do loadVar t (<-asAddr (tm'.getD c undef)))):=by
  rw[bRq,bRq]
  congr 1
  refine aLh fun rv hrv=>?_
  have ht:=h (match rv with| .tmp t=>t| .cell c _=>c) (by simp only[aC2,bO5];exact⟨rv,hrv,by cases rv<;>rfl⟩)
  cases rv with
  |tmp t=>simp only at ht⊢;rw[ht]
  |cell c t=>simp only at ht⊢;rw[ht]
 simp only[results];exact congrArg (fun z=>z>>=_) this
theorem bAv {L:bG}(hL:oX P L){R:Ending->World->Prop}{w0:World}(hro:Ξ.ro=none)(ht:Ξ.tail=[])(hnm:Ξ.nm=false)
  (k: ∀a1 w1 G1 x,e.val x->a1.defers=[]->Rel P Ξ B S G1 st' fn.ntmps a1 w1->Below B w0 w1->e.fin P fn a1 w1 R x):
  ∀(n:Nat),(∀m,m<n->vA P L m/\ kU P (bK L 8 (exec L m))/\ vY P (eJ L (exec L m)))-> ∀(y:Code) (ly:bA) (st:St) (G:Gh) (a:Act) (w:World),aAt P I (aC2 fn.results.toList) y=some ly->ly.dstOk fn.ntmps=true->
   exec L n ly st=some (e,st')->Rel P Ξ B S G st fn.ntmps a w->Below B w0 w->y.wpIn (Fx none) 0 P (bodyPostM Fence.wide 0 P fn R) a w:=by
 intro n
 induction n with
 |zero=>intro _ y ly st G a w _ _ hx;simp[exec]at hx
 |succ n ih=>
  intro hall y ly st G a w hly hdst hx hR hB;obtain⟨hE,hcall,hio⟩:=hall n (by omega)
  have hplain: ∀{ro:Option Nat},ro=none->Fx ro=Fx none:=fun h=>by rw[h]
  cases y<;>simp only[aAt,reduceCtorEq]at hly
  rename_i x y
  split at hly
  ·-- the deferred call
   rename_i ops kc hdf;obtain⟨F,f,args,l,hcf,hf,hargs,hl,rfl⟩:=aPi hly;unfold aW7 at hdf
   split at hdf
   case h_2=>cases hdf
   rename_i id ops'
   split at hdf
   case h_2=>cases hdf
   rename_i o hback
   split at hdf
   case h_2=>cases hdf
   rename_i kc' hop hgd hdo;simp only[bN7,bOb]at hdf;obtain⟨rfl,rfl⟩:=hdf;simp only[bA.dstOk,bN8]at hdst;obtain⟨hd1,hd2⟩:=hdst;rw[exec]at hx
   split at hx
   case h_2=>cases hx
   rename_i st2 hpre
   split at hx
   case h_2=>cases hx
   rename_i eb st3 hbx
   split at hx
   ·cases hx
   rename_i hts;obtain⟨st4,hdfr,he⟩:=bOj.1 hx;simp only[bOb]at he;obtain⟨rfl,rfl⟩:=he;obtain⟨m1,m2⟩:=eE hl;have hne:ops'.size≠0:=by
    intro h0;have:ops'= #[]:=Array.eq_empty_of_size_eq_zero h0;rw[this]at hback;simp at hback
   have hll:l.length=ops'.size-1:=by rw[m1];simp
   have hlast:ops'[l.length]?=some o:=by rw[hll];rw[Array.back?_eq_getElem?]at hback;exact hback
   refine wpIn_seq (wpIn_region ?_)
   rw[show ops'.size=l.length+1 by omega,List.range_succ,bRc]
   refine bAu (N:=fn.ntmps) (Ξ:=Ξ) (B:=B) (S:=S) hcall hio (l:=l) (I:=I) (fun i hi=>?_) hd1 l.length 0 st st2 G a w (by omega) hR (by simpa using hpre) fun a2 w2 G2 hR2 hb2=>?_
   ·have hi':i<ops'.size:=by omega
    refine⟨hi',?_⟩
    have:=m2 i (by simp;omega) hi
    simpa[List.getElem_dropLast]using this
   have hfv:=aT hR2 hf;obtain⟨la,va⟩:=nX hR2 hargs;cases hfn0:St.get st2.fr f with
   |fn g A Z=>?_
   |_=>rw[hfn0]at hdfr;simp[gK]at hdfr
   rw[hfn0]at hdfr hfv;obtain⟨hfr4,⟨gn,hgn,hgname,hgbody⟩,hdef⟩:=aPk hL hE hcall hio hdfr;generalize hgF:a2.eval F=uF at hfv;cases hfv with
   |fn _ _ _ p q hp hq hvp hvq=>
   let dd:Deferred:={target:= .fn (.func g) q,args:=p++kc'.args.map a2.eval};have hrun:(execOp a2.eval o).run P w2= .ok (.defer dd) w2:=by
    simp[execOp,hop,resolve,hcf,hgF,Deferred.ofValue,dd]
   have hinv: ∀W:World,(invoke (.fn (.func g) q) (p++kc'.args.map a2.eval)).run P W= .ok (.enter g (p++kc'.args.map a2.eval++q)) W:=by
    intro W;have hnm': ¬gn.name= "runtime.NumGoroutine" :=by simpa using hgname
    have hbody': ¬gn.body=none:=by intro h;rw[h]at hgbody;cases hgbody
    simp[invoke,callFunc,hgn,hnm',hbody']
   obtain⟨Ds,r1,r2,r3⟩:=hR2.marks;rw[ht,bPa]at r1;rw[wpOpsIn_cons];unfold wpOpIn;simp only[hlast];have hw:Region.wanted o (yielded ops' a2.tmps)=true:=by simp[Region.wanted,hgd]
   simp only[hw,if_true]
   refine⟨fun _ _=>trivial,?_⟩
   rw[show(Fx none).round=none from rfl,Oper.semAt_none,hrun,Oper.uponIn_defer,hdo]
   show Code.wpIn (Fx none) 0 P y (bodyPostM Fence.wide 0 P fn R) {a2 with defers:=dd::a2.defers} w2;let ΞB:Env:={prs:=fun u z=>Ξ.prs u z \/ ∃X x,aO X=some x/\ u=St.get st2.fr x/\ z=a2.eval X,ro:=Ξ.ro,rnd:=Ξ.rnd,defs:=fun D=>Ξ.defs D \/D∈Ds,tail:=dd::Ds.map wY,virt:=Ξ.virt}
   have hRB:Rel P ΞB B S G2 st2 fn.ntmps {a2 with defers:=dd::a2.defers} w2:=
    ⟨hR2.size,hR2.tmps,hR2.frame,⟨[],by simp[ΞB,r1],⟨List.nodup_nil,fun _=>rfl⟩,fun D hD=>by simp at hD⟩,hR2.ents,hR2.freshEn,hR2.freshG,hR2.own,fun u z hu=>by
     rcases hu with(hu|⟨X,x,h1,rfl,rfl⟩)|hu
     ·exact hR2.extra u z (.inl hu)
     ·exact aT hR2 h1
     ·exact hR2.extra u z (.inr hu),fun l hl=>hR2.round l hl,fun D hD=>hD.elim (hR2.defs D) fun h=>(r3 D h).2.2,hR2.virt⟩
   have hfx:Fx ΞB.ro=Fx none:=by show Fx Ξ.ro=Fx none;rw[hro]
   have hBw2:Below B w0 w2:=hB.trans hb2;rw[<-hfx]
   refine hE I fn.ntmps y st2 eb st3 ΞB B S G2 _ w2 _ 0 hd2 (fun h=>nomatch h) hRB hbx fun a3 w3 G3 x3 hx3 hR3 hb3=>?_
   obtain⟨tm,hR3',htm,htu⟩:=hR3;obtain⟨Ds3,s1,s2,s3,s4,_,hR4⟩:=hR3'.shut
   replace s1:a3.defers=Ds3.map wY++(dd::Ds.map wY):=s1
   have hres:results fn tm=results fn a3.tmps:=aM4 fun t htt=>htu t (by
    cases hu:(st3.fr t).isUndef with
    |false=>rfl
    |true=>exact absurd (bQ8.2 ⟨t,htt,hu⟩) (by simpa using hts))
   have hlv:LeavesInM Fence.wide 0 P fn a3.tmps R (Ds3.map wY++(dd::Ds.map wY)) (eb.mode x3) w3:=by
    refine mV Ex.mode_run Ds3 w3 s2 s3 ⟨Ex.mode_run,.inr ⟨fun h=>by simp[Fence.wide]at h,.func g,q,g,_,rfl,hinv _,fun _ _=>trivial,?_⟩⟩
    have hvals: ∀i,i<(A++args.map (St.get st2.fr)++Z).length->VR (aW B S G3 (kW w3 Ds3).heap.size) G3 (kW w3 Ds3) ((A++args.map (St.get st2.fr)++Z).getD i .dead) ((p++kc'.args.map a2.eval++q).getD i undef):=by
     have hfv4:=hR4.extra _ _ (.inl (.inr ⟨F,f,hf,rfl,rfl⟩));rw[hfn0,hgF]at hfv4;cases hfv4 with
     |fn _ _ _ _ _ hp4 hq4 hvp4 hvq4=>
     intro i hi;simp only[bOd,bOl,bQw,bQy,bOr,bQx,Array.size_map,bOc]at hi⊢;have e1:p.size=A.length:=hp;have e2:kc'.args.size=args.length:=by simp[la]
     rw[e1,e2];split
     ·split
      ·rename_i h;have:=hvp4 i h;simpa[bOd,bOl]using this
      ·have hi':i-A.length<args.length:=by omega
       have hi2:i-A.length<kc'.args.size:=by omega
       obtain⟨m3,m4⟩:=eE hargs;have hlo:=m4 (i-A.length) (by simpa using hi2) hi'
       have:=hR4.extra _ _ (.inl (.inr ⟨_,_,hlo,rfl,rfl⟩))
       simpa[bOd,bOl,hi',hi2]using this
     ·have:=hvq4 (i-(A.length+args.length)) (by omega);simpa[bOd,bOl]using this
    refine CallsDIn.mono (hdef ΞB B S G3 fn.ntmps _ (kW w3 Ds3) _ x3 (0-1) hx3 hR4 (by simp[hp,hq,la]) hvals) ?_
    rintro ed u' w5 ⟨G5,y5,rfl,hset,hR5,hb5⟩
    simp only[hset];have hR6:Rel P Ξ B S G5 st4 fn.ntmps {tmps:=tm,defers:=Ds.map wY} w5:=
     ⟨hR5.size,hR5.tmps,hR5.frame,⟨Ds,by simp[ht],r2,fun D hD=>⟨(r3 D hD).1,(r3 D hD).2.1,hR5.defs D (.inr hD)⟩⟩,hR5.ents,hR5.freshEn,hR5.freshG,hR5.own,fun u z hu=>hR5.extra u z (hu.imp_left .inl),fun l hl=>hR5.round l hl,fun D hD=>hR5.defs D (.inl hD),hR5.virt⟩
    obtain⟨Ds6,v1,v2,v3,v4,_,hR7⟩:=hR6.shut
    replace v1:Ds.map wY=Ds6.map wY++Ξ.tail:=v1
    have hfin:=k _ _ _ undef trivial ht hR7 ((((hBw2.trans hb3).trans (xK Ds3 w3 s4)).trans hb5).trans (xK Ds6 w5 v4));obtain⟨yy,hyy,hRy⟩:=hfin;rw[v1,ht]
    refine mV (by simp) Ds6 w5 v2 v3 ?_
    exact⟨yy,by rw[<-hres];exact hyy,hRy⟩
   rw[<-s1]at hlv;cases eb with
   |normal=>exact hlv
   |ret=>exact hlv
   |panic v=>exact hlv
   |exit id=>simp[gK,Ex.rcvd]at hdfr;split at hdfr<;>(try split at hdfr)<;>simp at hdfr
  ·split at hly
   case h_2=>cases hly
   rename_i ly' hly';simp only[bN7]at hly;subst hly;simp only[bA.dstOk,bN8]at hdst;rw[exec]at hx
   refine wpIn_seq ?_
   cases h1:exec L n (cA P I x) st with
   |none=>rw[h1]at hx;cases hx
   |some pr=>
    obtain⟨e1,s1⟩:=pr;rw[h1]at hx;have hfx:Fx Ξ.ro=Fx none:=by rw[hro]
    rw[<-hfx]
    refine hE I fn.ntmps x st e1 s1 Ξ B S G a w _ 0 hdst.1 (fun h=>by rw[hnm]at h;cases h) hR h1 fun a1 w1 G1 x1 hx1 hR1 hb1=>?_
    cases e1 with
    |normal=>
     rw[hfx];exact ih (fun m hm=>hall m (by omega)) y ly' s1 G1 a1 w1 hly' hdst.2 hx (hR1.rel rfl) (hB.trans hb1)
    |exit id=>simp only[bN7,bOb]at hx;obtain⟨rfl,rfl⟩:=hx;exact aA2 (m:=0) ht hx1 hR1 (hB.trans hb1) k
    |ret=>simp only[bN7,bOb]at hx;obtain⟨rfl,rfl⟩:=hx;exact aA2 (m:=0) ht hx1 hR1 (hB.trans hb1) k
    |panic v=>simp only[bN7,bOb]at hx;obtain⟨rfl,rfl⟩:=hx;exact aA2 (m:=0) ht hx1 hR1 (hB.trans hb1) k
theorem bGf {L:bG}(hL:oX P L)(hE:vA P L n)(hall: ∀m,m<n->vA P L m/\ kU P (bK L 8 (exec L m))/\ vY P (eJ L (exec L m))):aEz P L n:=by
 intro f fn lf I keep amb e st0 st' Ξ B S G vals w R hfn hlow hx hro ht hnm hR0 k;obtain⟨c,hbody,hlb,hdst,hnp,hname,hres⟩:=vZ hlow;have hfx:Fx Ξ.ro=Fx none:=by rw[hro]
 refine callsIn_wide.1 (callsIn_of_wp_marks (F:=Fence.wide) (n:=0) hfn hbody trivial ?_)
 simp only[aC3]at hlb
 split at hlb
 ·rename_i lc hrc;simp only[bN7]at hlb;subst hlb
  exfalso
  unfold aRv at hrc
  split at hrc
  case h_2=>cases hrc
  split at hrc
  case h_2=>cases hrc
  split at hrc
  case isFalse=>cases hrc
  obtain⟨l',_,he⟩:=bOj.1 hrc;rw[<-he]at hx;cases n<;>simp[exec]at hx
 ·split at hlb
  ·rename_i lc hlt;simp only[bN7]at hlb;subst hlb;exact bAv hL hro ht hnm k n hall c _ st0 G _ w hlt hdst hx hR0 (Below.refl _ _)
  ·split at hlb
   ·cases hlb
   simp only[bN7]at hlb;rw[<-hlb]at hx hdst;have:=hE I fn.ntmps c st0 e st' Ξ B S G _ w (bodyPostM Fence.wide 0 P fn R) 0 hdst (fun h=>by rw[hnm]at h;cases h) hR0 hx fun a1 w1 G1 x hxv hR1 hb=>aA2 ht hxv hR1 hb k
   rw[hfx]at this;exact this
theorem aE3 {L:bG}(hL:oX P L){k:Nat}(ih:aEz P L n):kU P (bK L k (exec L n)):=by
 intro f args r h;simp only[bK]at h
 split at h
 ·cases h
 rename_i lf hlf
 split at h
 case isFalse=>cases h
 rename_i hlen
 split at h
 ·rename_i ha;obtain⟨e1,c1⟩:=aPg hL ih hlf hlen ha h;exact⟨e1,fun S w vals hS hgl hvl hv=>c1 _ _ S w vals hS hgl hvl hv⟩
 ·exact aE0 hL ih hlf hlen h
theorem aVc (hm:P.follows .mixedOrders=true){L:bG}(hL:oX P L): ∀n,vA P L n/\ aEz P L n:=by
 intro n
 induction n using Nat.strongRecOn with
 |ind n ih=>
  have hE:vA P L n:=by
   match n,ih with
   |0,_=>intro I N c st e st' Ξ B S G a w Q m _ _ _ hx;simp[exec]at hx
   |n+1,ih=>exact aVb hm hL (aE3 hL (ih n (by omega)).2) (ih n (by omega)).2 fun m hm'=>(ih m (by omega)).1
  exact⟨hE,bGf hL hE fun m hm'=>⟨(ih m hm').1,aE3 hL (ih m hm').2,aXz hL (ih m hm').2 (ih m hm').1⟩⟩
theorem aPl (hm:P.follows .mixedOrders=true){L:bG}(hL:oX P L)(n:Nat):kU P (kQ L n):=aE3 hL (aVc hm hL n).2
end Go.Abs
namespace Go.Abs
variable [Inhabited lD]
@[reducible] def o (d:Nat)(op:LOp):aM:=⟨some d,op,none⟩
@[reducible] def og (d t:Nat)(b:Bool)(op:LOp):aM:=⟨some d,op,some (t,b)⟩
@[reducible] def on (op:LOp):aM:=⟨none,op,none⟩
@[reducible] def ong (t:Nat)(b:Bool)(op:LOp):aM:=⟨none,op,some (t,b)⟩
@[reducible] def cI (n:Int):Opd:= .c (.int .i64 n)
@[reducible] def mT (d x:Nat):aM:=⟨some d,.mv (.t x),none⟩
@[reducible] def mC (d:Nat)(v:Val):aM:=⟨some d,.mv (.c v),none⟩
@[reducible] def fA (d k x:Nat):aM:=⟨some d,.fa k (.t x),none⟩
@[reducible] def l1 (d x:Nat):aM:=⟨some d,.load false 1 (.t x),none⟩
@[reducible] def lT (d n x:Nat):aM:=⟨some d,.load true n (.t x),none⟩
@[reducible] def bN (d:Nat)(op:BinOp)(x y:Opd):aM:=⟨some d,.bin op .num x y,none⟩
@[reducible] def pO (d c x:Nat):aM:=⟨some d,.pick (.t c) (.c (.bool true)) (.t x),none⟩
@[reducible] def pA (d c x:Nat):aM:=⟨some d,.pick (.t c) (.t x) (.c (.bool false)),none⟩
@[reducible] def cL (d f:Nat)(args:List Opd):aM:=⟨some d,.call (.f f) args,none⟩
@[reducible] def lN (d x:Nat):aM:=⟨some d,.len .slice (.t x),none⟩
@[reducible] def bX (d n x:Nat):aM:=⟨some d,.box n (.t x),none⟩
@[reducible] def iA (d s x i:Nat):aM:=⟨some d,.ia s (.t x) (.t i),none⟩
@[reducible] def nK (d x:Nat):aM:=⟨some d,.nilck (.t x),none⟩
@[reducible] def nT (d x:Nat):aM:=⟨some d,.un .not (.t x),none⟩
@[reducible] def sT (n a x:Nat):aM:=⟨none,.store n (.t a) (.t x),none⟩
@[reducible] def gM (d t:Nat)(b:Bool)(x:Nat):aM:=⟨some d,.mv (.t x),some (t,b)⟩
@[reducible] def gF (d t:Nat)(b:Bool)(k x:Nat):aM:=⟨some d,.fa k (.t x),some (t,b)⟩
@[reducible] def g1 (d t:Nat)(b:Bool)(x:Nat):aM:=⟨some d,.load false 1 (.t x),some (t,b)⟩
@[reducible] def gT (d t:Nat)(b:Bool)(n x:Nat):aM:=⟨some d,.load true n (.t x),some (t,b)⟩
@[reducible] def gN (d t:Nat)(b:Bool)(x:Nat):aM:=⟨some d,.len .slice (.t x),some (t,b)⟩
@[reducible] def gL (d t:Nat)(b:Bool)(f:Nat)(args:List Opd):aM:=⟨some d,.call (.f f) args,some (t,b)⟩
@[reducible] def gB (d t:Nat)(b:Bool)(op:BinOp)(x y:Opd):aM:=⟨some d,.bin op .num x y,some (t,b)⟩
structure bN2 where
 inl:List Nat:=[]
 pan:List Int:=[]
 dyn:Bool:=false
 keep:Bool:=false
 amb:Bool:=false
def aX1 (P:Program)(cfg:Nat->(Operand->Bool)×Bool×Bool):bG:=fun n=>match P.funcs[n]? with
 |some fn=>wX P (cfg n).1 (cfg n).2.1 (cfg n).2.2 fn
 |none=>none
theorem bAw {P:Program}{cfg:Nat->(Operand->Bool)×Bool×Bool}{n:Nat}{fn:Func}(h:P.funcs[n]?=some fn):aX1 P cfg n=wX P (cfg n).1 (cfg n).2.1 (cfg n).2.2 fn:=by simp only[aX1,h]
theorem bAx (P:Program)(cfg:Nat->(Operand->Bool)×Bool×Bool):oX P (aX1 P cfg):=by
 intro f lf h;simp only[aX1]at h
 split at h
 ·rename_i fn hf;exact⟨fn,(cfg f).1,(cfg f).2.1,(cfg f).2.2,hf,h⟩
 ·cases h
end Go.Abs
namespace Go.Abs
open Go.RowKit Go.WideShapes Go.ChangeShapes Go.ChangeAt
variable [Inhabited lD]
variable {H :Type}{enc:TypeId×Value->H}{P:Program}
theorem aDe (hl:laidOutB P=true){W W':World}(hb:Below W.heap.size W W'){sp:Nat->Bool}: ∀{ts:List TypeId} {vs:List Value} {ds:List (DataW H)} {ps:List MemPlace},(∀t∈ts,P.readableRec t=true/\ t<P.types.size)->
  DataW.TrodAll enc P W 0 (fun _=>true) true ts vs ds ps->(∀x∈ps,x.block<W.heap.size)->(∀x∈ps,sp x.block=true)->DataW.TrodAll enc P W' 0 sp true ts vs ds ps
 |[],[],[],ps,_,h,_,_=>h
 |t::ts,v::vs,d::ds,ps,hr,h,hlt,hsp=>by
  obtain⟨p,q,h1,h2,rfl⟩:=h
  refine⟨p,q,WideElems.Trod_stays hl (hr t (by simp)).1 (hr t (by simp)).2 h1 (fun x hx=>hb.same (hlt x (bQ4 _ hx))) (fun x hx=>hsp x (bQ4 _ hx)),
   aDe hl hb (fun t ht=>hr t (bP8 _ ht)) h2 (fun x hx=>hlt x (bQt _ hx)) (fun x hx=>hsp x (bQt _ hx)),rfl⟩
 |[],_::_,_,_,_,h,_,_=>h.elim
 |[],[],_::_,_,_,h,_,_=>h.elim
 |_::_,[],_,_,_,h,_,_=>h.elim
 |_::_,_::_,[],_,_,h,_,_=>h.elim
theorem aX2 {f:Func}{s:ChangeSpec}{apart fresh handsOn again:Bool}{W W':World}{args:Array Value}{ds gs:List (DataW H)}{before:List MemPlace}{bt:TypeId}
  (hW:DataW.Whole enc P f.params.toList s.vars apart W args.toList ds gs before) (hvars:s.vars=[]) (hres:f.resultTypes= #[bt]) (hbt:P.underlying bt=some .bool)
  (hfn:s.fn H (ds++gs)={results:=[.lit (.bool true)],args:=ds}) (hl:laidOutB P=true) (hr: ∀t∈f.params.toList,P.readableRec t=true/\ t<P.types.size) (hb:Below W.heap.size W W'):
  s.post enc P f apart fresh handsOn again W args (.bool true) W':=by
 have hlt: ∀x∈before,x.block<W.heap.size:=fun x hx=>hW.lt x hx
 obtain⟨p,q,hA,hV,hbq,hz,hn⟩:=hW;rw[hvars]at hV;obtain⟨rfl,rfl⟩:=trodVars_none hV;have hbp:before=p:=by simpa using hbq
 subst hbp;have harg: ∀sp:Nat->Bool,(∀x∈before,sp x.block=true)->DataW.TrodAll enc P W' 0 sp true f.params.toList args.toList ds before:=fun sp hsp=>aDe hl hb hr hA hlt hsp
 have hresult: ∀(b:Nat) (sp:Nat->Bool) (hd:Bool),DataW.TrodAll enc P W' b sp hd f.resultTypes.toList ((Value.bool true).resultList f.resultTypes.size) [.lit (.bool true)] []:=by
  intro b sp hd;rw[hres];exact trodAll_cons_mk (shut_bool hbt _) trodAll_mk0
 have hvar: ∀sp:Nat->Bool,DataW.TrodVars enc P W' sp s.vars (s.fn H (ds++[])).vars []:=by
  intro sp;rw[hvars,hfn];exact rfl
 refine⟨ds,[],before,[],before,[],⟨before,[],hA,by rw[hvars];exact hV,by simp,hz,hn⟩,by rw[hfn];exact hresult _ _ _,by rw[hfn];exact harg _ (fun x hx=>by simpa using hlt x hx),hvar _,
  World.keptBut_mono (fun x hx=>⟨hx,.inr (by simpa using hx)⟩) (hb.frame (· ∈before)),fun _=>?_⟩
 refine⟨ok_one hres rfl (okWide_bool_mk hbt _),_,_,([]++before)++[],⟨[]++before,[],trodAll_append (harg _ (fun _ _=>rfl)) (hresult _ _ _),hvar _,rfl,fun b off hx=>?_,fun ha=>by simpa using hn ha⟩,fun x hx _=>by simpa using hx⟩
 have hin:MemPlace.cell b off∈before:=by simpa using hx
 rw[hb.frozen (hlt _ hin)];exact hz b off hin
theorem aSl {L:bG}(hm:P.follows .mixedOrders=true)(hL:oX P L){f n:Nat}{args:List Val}(h:kQ L n f args=some (.bool true)){S:Nat->Nat->Prop}{w:World}{vals:Array Value}(hS: ∀b o,S b o->b<w.heap.size)(hg:sR S w)
  (hn:vals.size=args.length) (hv: ∀i,i<args.length->VR S Gh.none w (args.getD i .dead) (vals.getD i undef)):Calls P f vals w fun e w'=>e= .returned (.bool true)/\ Below w.heap.size w w':=by
 refine Calls.mono ((aPl hm hL n f args _ h).2 S w vals hS hg hn hv) ?_
 rintro e w' ⟨v,rfl,hb,hr⟩
 have hr':VR (aDb w S w') Gh.none w' (.bool true) v:=hr;cases hr';exact⟨rfl,hb⟩
end Go.Abs
namespace Go.Abs
def aM5 (P:Program):Nat->List TypeId->List TypeId
 |0,s=>s
 |d+1,s=>if P.grow s==s then s else aM5 P d (P.grow s)
theorem aLi {P:Program}{s:List TypeId}(h:P.grow s=s): ∀d,P.grown d s=s
 |0=>rfl
 |d+1=>by rw[Program.grown,h];exact aLi h d
theorem aLj (P:Program): ∀(d:Nat) (s:List TypeId),P.grown d s=aM5 P d s
 |0,s=>rfl
 |d+1,s=>by
  rw[aM5]
  by_cases h:(P.grow s==s)=true
  ·rw[if_pos h];exact aLi (eq_of_beq h) _
  ·rw[if_neg h,Program.grown];exact aLj P d _
theorem bD4 (P:Program)(t:TypeId):P.book t=aM5 P P.types.size [t]:=aLj P _ _
def CLe (c c':bC):Prop:= ∀f a r,c f a=some r->c' f a=some r
def ILe (i j:Inl):Prop:=(∀f a s r,i.fn f a s=some r->j.fn f a s=some r)/\ ∀k a s r,i.yld k a s=some r->j.yld k a s=some r
def XLe (x y:bA->St->Option (Ex×St)):Prop:= ∀c s r,x c s=some r->y c s=some r
variable {d g me:Nat}{en:En}{get:Opd->Val}{op:LOp}{c':bC}
theorem aVd {n:Nat}{c:bC}(h:CLe c c'){r:Res}(he:eval n c me d g en get op=some r):eval n c' me d g en get op=some r:=by
 by_cases hc: ∃f args,op= .call f args
 ·obtain⟨f,args,rfl⟩:=hc;simp only[eval]at he⊢
  split at he
  case h_2=>cases he
  split at he
  case h_2=>cases he
  split at he
  case h_2=>cases he
  rename_i hv;rw[h _ _ _ hv];exact he
 ·cases op<;>first|exact absurd ⟨_,_,rfl⟩ hc|exact he
variable {a:List Val}
theorem aM6 {i j:Inl}(h:ILe i j){f:Val}{s:St}{r:Val×St}(he:i.call f a s=some r):j.call f a s=some r:=by
 cases f<;>simp only[Inl.call,reduceCtorEq]at he⊢
 ·exact h.1 _ _ _ _ he
 ·exact h.2 _ _ _ _ he
variable {st:St}
theorem aA3 {n:Nat}{c:bC}{i j:Inl}(hc:CLe c c')(hi:ILe i j){o:aM}{r:St×Res}(h:step n c i 0 st o=some r):step n c' j 0 st o=some r:=by
 obtain⟨dst,op,g⟩:=o;simp only[step]at h⊢
 split at h
 ·exact h
 ·cases op with
  |icall f args=>
   simp only at h⊢
   split at h
   case h_2=>cases h
   rename_i hv;rw[aM6 hi hv];exact h
  |_=>
   simp only at h⊢
   split at h
   case h_2=>cases h
   rename_i hv;rw[aVd hc hv];exact h
 ·cases h
theorem uM {n:Nat}{c c':bC}{i j:Inl}(hc:CLe c c')(hi:ILe i j): ∀(l:List aM) {st r:St},fR n c i 0 l st=some r->fR n c' j 0 l st=some r
 |[],_,_,h=>h
 |o::l,st,r,h=>by
  simp only[fR]at h⊢
  split at h
  case h_2=>cases h
  rename_i hs;rw[aA3 hc hi hs];exact uM hc hi l h
theorem oJ {n:Nat}{c c':bC}{i j:Inl}(hc:CLe c c')(hi:ILe i j): ∀(l:List aM) {st:St} {r:St×List Res},iL n c i 0 l st=some r->iL n c' j 0 l st=some r
 |[],_,_,h=>h
 |o::l,st,r,h=>by
  simp only[iL]at h⊢
  split at h
  case h_2=>cases h
  rename_i hs;rw[aA3 hc hi hs]
  split at h
  case h_2=>cases h
  rename_i hr;simp only[oJ hc hi l hr];exact h
variable {r:Val}{lf:iR}{y:bA->St->Option (Ex×St)}
theorem wB {x:bA->St->Option (Ex×St)}(h:XLe x y){n:Nat}(hb:iH lf n x a=some r):iH lf n y a=some r:=by
 simp only[iH]at hb⊢
 split at hb
 case h_2=>cases hb
 rename_i hx;rw[h _ _ _ hx];exact hb
theorem aLk {a b a' b':Option Val}(ha: ∀r,a=some r->a'=some r)(hb: ∀r,b=some r->b'=some r)(h:jE a b=some r):jE a' b'=some r:=by
 unfold jE at h
 split at h<;>first|(cases h;done)|(rw[ha _ rfl,hb _ rfl];exact h)
theorem wC {L:bG}{x:bA->St->Option (Ex×St)}(h:XLe x y){n:Nat}:CLe (bK L n x) (bK L n y):=by
 intro f a r hc;simp only[bK]at hc⊢
 split at hc
 ·cases hc
 split at hc
 case isFalse=>cases hc
 rename_i hl;rw[if_pos hl]
 split at hc
 ·rename_i ha;rw[if_pos ha];exact aLk (fun _=>wB h) (fun _=>wB h) hc
 ·rename_i ha;rw[if_neg ha];exact wB h hc
variable {f:Nat}
theorem aVe {L:bG}{x:bA->St->Option (Ex×St)}(h:XLe x y){s:St}{r:Val×St}(hc:jZ L x f a s=some r):jZ L y f a s=some r:=by
 simp only[jZ]at hc⊢
 split at hc
 ·cases hc
 split at hc
 case isFalse=>cases hc
 rename_i hl;rw[if_pos hl]
 split at hc
 ·rename_i ha;rw[if_pos ha];obtain⟨v,hv,rfl⟩:=bOj.1 hc;rw[aLk (fun _=>wB h) (fun _=>wB h) hv];rfl
 ·rename_i ha;rw[if_neg ha]
  split at hc
  case h_2=>cases hc
  rename_i hx;rw[h _ _ _ hx];exact hc
theorem wD {L:bG}{x:bA->St->Option (Ex×St)}(h:XLe x y):ILe (eJ L x) (eJ L y):=by
 refine⟨fun f a s r hc=>?_,fun k a s r hc=>?_⟩
 ·simp only[eJ,yU]at hc⊢
  split at hc
  case h_2=>cases hc
  rename_i hx;rw[aVe h hx];exact hc
 ·simp only[eJ,aCx]at hc⊢
  split at hc
  case h_2=>cases hc
  split at hc
  case isFalse=>cases hc
  rename_i hl;rw[if_pos hl]
  split at hc
  case h_2=>cases hc
  rename_i hx;rw[h _ _ _ hx]
  split at hc
  case h_2=>cases hc
  rename_i hk;simp only[hk]
  split at hc
  case h_2=>cases hc
  rename_i hx2;simp only[h _ _ _ hx2];exact hc
theorem aPm {L:bG}{x:bA->St->Option (Ex×St)}(h:XLe x y):CLe (cG L x) (cG L y):=by
 intro f a r hc;simp only[cG]at hc⊢
 split at hc
 ·cases hc
 split at hc
 case isFalse=>cases hc
 rename_i hl;rw[if_pos hl]
 split at hc
 case h_2=>cases hc
 rename_i hx;simp only[h _ _ _ hx];exact hc
theorem aPn {L:bG}{x:bA->St->Option (Ex×St)}(h:XLe x y){s:St}{r:Val×St}(hc:dS L x f a s=some r):dS L y f a s=some r:=by
 simp only[dS]at hc⊢
 split at hc
 ·cases hc
 split at hc
 case isFalse=>cases hc
 rename_i hl;rw[if_pos hl]
 split at hc
 case h_2=>cases hc
 rename_i hx;simp only[h _ _ _ hx];exact hc
variable {v:Val}
theorem aX3 {L:bG}{x:bA->St->Option (Ex×St)}{n:Nat}(h:cG L x f a=some v):bK L n x f a=none:=by
 simp only[cG]at h
 split at h
 ·cases h
 rename_i lf hlf
 split at h
 case isFalse=>cases h
 rename_i hl
 split at h
 case h_2=>cases h
 rename_i hx;simp only[bK,hlf,hl.1,hl.2,if_true,bOa,if_false,iH,hx,Ex.ends]
theorem aT0 {L:bG}{x:bA->St->Option (Ex×St)}{s:St}{r:Val×St}(h:dS L x f a s=some r):jZ L x f a s=none:=by
 simp only[dS]at h
 split at h
 ·cases h
 rename_i lf hlf
 split at h
 case isFalse=>cases h
 rename_i hl
 split at h
 case h_2=>cases h
 rename_i hx;simp only[jZ,hlf,hl.1,hl.2,if_true,bOa,if_false,hx,Ex.ends]
theorem aX4 {L:bG}{x:bA->St->Option (Ex×St)}{s:St}{r:Val×St}(h:dS L x f a s=some r):yU L x f a s=none:=by
 simp only[yU,aT0 h]
theorem zD {L:bG}{x:bA->St->Option (Ex×St)}{n k:Nat}{o:aM}{r:Val×St}(h:dH n (cG L x) (dS L x) st o=some r):step n (bK L k x) (eJ L x) 0 st o=none:=by
 obtain⟨dst,op,g⟩:=o;simp only[dH]at h
 split at h
 case h_2=>cases h
 rename_i hw;simp only[step,hw];cases op with
 |panic y=>simp[eval]
 |call f args=>
  simp only at h⊢
  split at h
  case h_2=>cases h
  rename_i hf
  split at h
  case h_2=>cases h
  rename_i hs;obtain⟨v,hv,rfl⟩:=bOj.1 h;simp only[eval,hf,hs,aX3 hv]
 |icall f args=>
  simp only at h⊢
  split at h
  case h_2=>cases h
  rename_i hf
  split at h
  case h_2=>cases h
  rename_i hv;simp only[hf,Inl.call,eJ,yU,aT0 hv]
 |_=>simp at h
variable {p:bC}
theorem rV {L:bG}{x:bA->St->Option (Ex×St)}(hx:XLe x y)(hp:CLe p (cG L y)){n:Nat}{o:aM}{r:Val×St}(h:dH n p (dS L x) st o=some r):dH n (cG L y) (dS L y) st o=some r:=by
 obtain⟨dst,op,g⟩:=o;simp only[dH]at h⊢
 split at h
 case h_2=>cases h
 rename_i hw;cases op with
 |call f args=>
  simp only at h⊢
  split at h
  case h_2=>cases h
  split at h
  case h_2=>cases h
  obtain⟨v,hv,rfl⟩:=bOj.1 h;simp only[hp _ _ _ hv,bO0]
 |icall f args=>
  simp only at h⊢
  split at h
  case h_2=>cases h
  split at h
  case h_2=>cases h
  rename_i hv;rw[aPn hx hv];exact h
 |_=>exact h
theorem aLl {L:bG}{x y:bA->St->Option (Ex×St)}{c p:bC}{k:Nat}(hx:XLe x y)(hc:CLe c (bK L k y))(hp:CLe p (cG L y)){n:Nat}: ∀(l:List aM) {st:St} {r:Ex×St},
  aCy n c (eJ L x) p (dS L x) l st=some r->aCy n (bK L k y) (eJ L y) (cG L y) (dS L y) l st=some r
 |[],_,_,h=>h
 |o::l,st,r,h=>by
  simp only[aCy]at h⊢
  split at h
  ·rename_i hq;simp only[rV hx hp hq];exact h
  ·split at h
   case h_2=>cases h
   rename_i hs;have hs':=aA3 hc (wD hx (L:=L)) hs;have hn:dH n (cG L y) (dS L y) st o=none:=by
    cases hq:dH n (cG L y) (dS L y) st o with
    |none=>rfl
    |some q=>rw[zD hq]at hs';cases hs'
   simp only[hn,hs'];exact aLl hx hc hp l h
variable {args:List Val}
theorem aSm {L:bG}{x:bA->St->Option (Ex×St)}(hx:XLe x y){f:Val}{e:Ex}{st':St}(h:gK L x f args e st=some st'):gK L y f args e st=some st':=by
 unfold gK at h⊢
 split at h
 case h_2=>cases h
 split at h
 case h_2=>cases h
 split at h
 case h_2=>cases h
 split at h
 case isFalse=>cases h
 rename_i hc
 split at h
 case h_2=>cases h
 rename_i ho
 split at h
 case h_2=>cases h
 rename_i hb;simp only[if_pos hc,uM (wC hx (L:=L) (n:=8)) (wD hx (L:=L)) _ ho,hx _ _ _ hb];exact h
theorem aCb {L:bG}{x y:bA->St->Option (Ex×St)}{c p:bC}{k:Nat}(hx:XLe x y)(hc:CLe c (bK L k y))(hp:CLe p (cG L y)){n:Nat}: ∀(l:List aM) {i j:Nat} {st:St},
  oS n c (eJ L x) p (dS L x) l i st=some j->oS n (bK L k y) (eJ L y) (cG L y) (dS L y) l i st=some j
 |[],_,_,_,h=>h
 |o::l,i,j,st,h=>by
  simp only[oS]at h⊢
  split at h
  ·rename_i hq;simp only[rV hx hp hq];exact h
  ·split at h
   case h_2=>cases h
   rename_i hs;have hs':=aA3 hc (wD hx (L:=L)) hs;have hn:dH n (cG L y) (dS L y) st o=none:=by
    cases hq:dH n (cG L y) (dS L y) st o with
    |none=>rfl
    |some q=>rw[zD hq]at hs';cases hs'
   simp only[hn,hs'];exact aCb hx hc hp l h
theorem tC {L:bG}{x:bA->St->Option (Ex×St)}{n k:Nat}: ∀(l:List aM) {i:Nat} {st:St} {r:St×List Res},
  iL n (bK L k x) (eJ L x) 0 l st=some r->oS n (bK L k x) (eJ L x) (cG L x) (dS L x) l i st=none
 |[],_,_,_,_=>rfl
 |o::l,i,st,r,h=>by
  simp only[iL]at h
  split at h
  case h_2=>cases h
  rename_i hs
  split at h
  case h_2=>cases h
  rename_i hr;have hn:dH n (cG L x) (dS L x) st o=none:=by
   cases hq:dH n (cG L x) (dS L x) st o with
   |none=>rfl
   |some q=>rw[zD hq]at hs;cases hs
  simp only[oS,hn,hs];exact tC l hr
variable {l:List aM}{j:Nat}
theorem aM7 {L:bG}{x:bA->St->Option (Ex×St)}{c:bC}{k:Nat}(hx:XLe x y)(hc:CLe c (bK L k y))(hp:CLe p (cG L y)){n:Nat}{an:List (List Nat)}{ps:List (Nat×Nat)}{r:Ex×St}
  (h:uG n c (eJ L x) p (dS L x) l an ps j st=some r):uG n (bK L k y) (eJ L y) (cG L y) (dS L y) l an ps j st=some r:=by
 simp only[uG]at h⊢
 split at h
 case h_2=>cases h
 rename_i hr;rw[oJ hc (wD hx (L:=L)) _ hr]
 simp only
 split at h
 case isFalse=>cases h
 rename_i hk;rw[if_pos hk]
 split at h
 case h_2=>cases h
 rename_i hq;simp only[rV hx hp hq];exact h
variable {ps:List Nat}
theorem aSn {L:bG}{x:bA->St->Option (Ex×St)}(h:XLe x y){g:Val}{a b:bA}{r:Ex×St}(hr:mP L x g ps a b st=some r):mP L y g ps a b st=some r:=by
 unfold mP at hr⊢
 split at hr
 case h_2=>cases hr
 simp only at hr⊢
 split at hr
 ·rename_i hx;have:=(wD h (L:=L)).1 _ _ _ _ hx;simp only[eJ]at this;rw[this];exact hr
 ·split at hr
  case h_2=>cases hr
  rename_i hx;have:=aPn h (L:=L) hx;simp only[aX4 this,this];exact hr
def rQ (L:bG)(x:bA->St->Option (Ex×St))(ca p:bC)(c:bA)(st:St):Option (Ex×St):=
 let i:=eJ L x
 match c with
 | .skip=>some (.normal,st)
 | .ops l=>(fR 8 ca i 0 l st).map fun st=>(.normal,st)
 | .draw l ps=>match iL 8 ca i 0 l st with
  |some (st',rs)=>if dG rs ps then some (.normal,st')else none
  |none=>none
 | .seq a b=>match x a st with
  |some (.normal,st')=>x b st'
  |r=>r
 | .cond z a b=>match St.get st.fr z with
  | .bool true=>x a st
  | .bool false=>x b st
  |_=>none
 | .block id b=>match x b st with
  |some (.exit id',st')=>if id'=id then some (.normal,st')else some (.exit id',st')
  |r=>r
 | .loop b=>match x b st with
  |some (.normal,st')=>x (.loop b) st'
  |r=>r
 | .exit id=>some (.exit id,st)
 | .ret=>some (.ret,st)
 | .rangeF g ps a b=>mP L x (St.get st.fr g) ps a b st
 | .opsP l=>aCy 8 ca i p (dS L x) l st
 | .dfr ts l f args b=>match fR 8 ca i 0 l st with
  |some st2=>match x b st2 with
   |some (e,st3)=>if ts.any (fun t=>(st3.fr t).isUndef)then none else(gK L x (St.get st2.fr f) (args.map (St.get st2.fr)) e st3).map fun st4=>(.ret,st4)
   |none=>none
  |none=>none
 | .rcv _ _ _=>none
 | .drawP l an ps=>match oS 8 ca i p (dS L x) l 0 st with
  |some j=>uG 8 ca i p (dS L x) l an ps j st
  |none=>match iL 8 ca i 0 l st with
   |some (st',rs)=>if dG rs ps then some (.normal,st')else none
   |none=>none
 | .drawL l an ps A=>vS 8 ca i p (dS L x) (iO A (gW st (l.getD A default)) l) an ps A (gW st (l.getD A default)) (uH (gW st (l.getD A default)) (aK6 (l.getD A default).op) st)
theorem aE4 (L:bG)(n:Nat):exec L (n+1)=rQ L (exec L n) (bK L 8 (exec L n)) (cG L (exec L n)):=by
 funext c st
 cases c<;>rfl
theorem aT1 {L:bG}{x:bA->St->Option (Ex×St)}{ca:bC}(ih:XLe x y)(hc:CLe ca (bK L 8 y))(hp:CLe p (cG L y)):XLe (rQ L x ca p) (rQ L y (bK L 8 y) (cG L y)):=by
 intro c s r h;have hi:=wD ih (L:=L);cases c with
 |skip=>exact h
 |ops l=>
  simp only[rQ]at h⊢;obtain⟨st,hs,rfl⟩:=bOj.1 h;rw[uM hc hi l hs];rfl
 |draw l ps=>
  simp only[rQ]at h⊢
  split at h
  case h_2=>cases h
  rename_i hs;rw[oJ hc hi l hs];exact h
 |seq a b=>
  simp only[rQ]at h⊢;cases hx:x a s with
  |none=>rw[hx]at h;cases h
  |some p=>
   obtain⟨e,st⟩:=p;rw[hx]at h;rw[ih _ _ _ hx];cases e with
   |normal=>exact ih _ _ _ h
   |exit i=>exact h
   |ret=>exact h
   |panic v=>exact h
 |cond z a b=>
  simp only[rQ]at h⊢
  split at h
  ·exact ih _ _ _ h
  ·exact ih _ _ _ h
  ·cases h
 |block id b=>
  simp only[rQ]at h⊢;cases hx:x b s with
  |none=>rw[hx]at h;cases h
  |some p=>
   obtain⟨e,st⟩:=p;rw[hx]at h;rw[ih _ _ _ hx];exact h
 |loop b=>
  simp only[rQ]at h⊢;cases hx:x b s with
  |none=>rw[hx]at h;cases h
  |some p=>
   obtain⟨e,st⟩:=p;rw[hx]at h;rw[ih _ _ _ hx];cases e with
   |normal=>exact ih _ _ _ h
   |exit i=>exact h
   |ret=>exact h
   |panic v=>exact h
 |exit i=>exact h
 |ret=>exact h
 |rangeF g ps a b=>
  simp only[rQ]at h⊢;exact aSn ih h
 |opsP l=>
  simp only[rQ]at h⊢;exact aLl ih hc hp l h
 |rcv d l b=>simp[rQ]at h
 |drawP l an ps=>
  simp only[rQ]at h⊢
  split at h
  ·rename_i hf;simp only[aCb ih hc hp l hf];exact aM7 ih hc hp h
  ·split at h
   case h_2=>cases h
   rename_i hr;have hr':=oJ hc hi l hr;simp only[tC (x:=y) l hr',hr'];exact h
 |drawL l an ps A=>
  simp only[rQ]at h⊢;unfold vS at h⊢
  split at h
  ·rename_i hf;simp only[aCb ih hc hp _ hf]
   split at h
   case h_2=>cases h
   rename_i hr;rw[oJ hc hi _ hr]
   simp only
   split at h
   case isFalse=>cases h
   rename_i hck;rw[if_pos hck]
   split at h
   case h_2=>cases h
   rename_i hq;simp only[rV ih hp hq];exact h
  ·split at h
   case h_2=>cases h
   rename_i hr;have hr':=oJ hc hi _ hr;simp only[tC (x:=y) _ hr',hr'];exact h
 |dfr ts l f args b=>
  simp only[rQ]at h⊢
  split at h
  case h_2=>cases h
  rename_i hr;simp only[uM hc hi l hr]
  split at h
  case h_2=>cases h
  rename_i hb;simp only[ih _ _ _ hb]
  split at h
  ·cases h
  rename_i hts;rw[if_neg hts];obtain⟨q,hq,rfl⟩:=bOj.1 h;rw[aSm ih hq];rfl
theorem aVf (L:bG): ∀n,XLe (exec L n) (exec L (n+1)):=by
 intro n
 induction n with
 |zero=>intro c s r h;simp[exec]at h
 |succ n ih=>rw[aE4,aE4];exact aT1 ih (wC ih) (aPm ih)
variable {m:Nat}
theorem bAy (L:bG){n:Nat}(h:n<=m):XLe (exec L n) (exec L m):=by
 induction h with
 |refl=>intro c s r h;exact h
 |step _ ih=>intro c s r h;exact aVf L _ _ _ _ (ih _ _ _ h)
theorem zE {L:bG}{n:Nat}(h:n<=m)(hr:kQ L n f a=some r):kQ L m f a=some r:=wC (bAy L h) _ _ _ hr
def PC (L:bG)(f:Nat)(args:List Val)(r:Val):Prop:= ∃n0,∀n,n0<=n->kQ L n f args=some r
def Ev (L:bG)(c:bA)(st:St)(e:Ex)(st':St):Prop:= ∃n0,∀n,n0<=n->exec L n c st=some (e,st')
def WIn (L:bG)(f:Val)(args:List Val)(en:En)(cnt:Nat->Nat->Nat)(Q:Val->En->(Nat->Nat->Nat)->Prop):Prop:=
 ∃v en' cnt',(∃n0,∀n,n0<=n-> ∀fr,(eJ L (exec L n)).call f args ⟨fr,en,cnt⟩=some (v,⟨fr,en',cnt'⟩))/\ Q v en' cnt'
variable {cnt:Nat->Nat->Nat}{Q:Val->En->(Nat->Nat->Nat)->Prop}
theorem WIn.mono {L:bG}{f:Val}{R:Val->En->(Nat->Nat->Nat)->Prop}
  (h:WIn L f args en cnt Q) (k: ∀v en' cnt',Q v en' cnt'->R v en' cnt'):WIn L f args en cnt R:=by
 obtain⟨v,en',cnt',h1,h2⟩:=h;exact⟨v,en',cnt',h1,k _ _ _ h2⟩
theorem PC.det {L:bG}{s:Val}(h:PC L f args r)(k:PC L f args s):s=r:=by
 obtain⟨n,h⟩:=h;obtain⟨m,k⟩:=k;have h1:=h (max n m) (by omega);have h2:=k (max n m) (by omega)
 rw[h1]at h2;cases h2;rfl
theorem PC.is {L:bG}{s:Val}(h:PC L f args r):PC L f args s↔s=r:=
 ⟨fun k=>h.det k,fun e=>e▸h⟩
def bD5 :bC:=fun _ _=>none
def snapD :Nat->En->Val->Option (Val×List Key)
 |0,_,_=>none
 |n+1,en,v=>
  match v with
  | .ptr k off=>match en k with
   |some (.box cs _)=>match cM (snapD n en) cs with
    |some rs=>some (.fp (rs.map (·.1)) off,k::rs.flatMap (·.2))
    |none=>none
   |_=>none
  | .ep k i off=>match en k with
   |some (.blk _ xs _)=>if k.deep then none else match xs[i]? with
    |some x=>some (.fp x.cells off,[k])
    |none=>none
   |_=>none
  | .bl k off len=>match en k with
   |some (.blk _ xs _)=>if k.deep then none else if off+len<=xs.length then some (.fz ((xs.drop off).take len),[k])else none
   |_=>none
  | .mp k=>match en k with
   |some (.map ks vs _)=>some (.fm ks vs,[k])
   |_=>none
  | .yld _| .it _=>none
  | .fn f a b=>match cM (snapD n en) a with
   |some x=>match cM (snapD n en) b with
    |some y=>some (.fn f (x.map (·.1)) (y.map (·.1)),x.flatMap (·.2)++y.flatMap (·.2))
    |none=>none
   |none=>none
  | .ifc t v=>match snapD n en v with
   |some r=>some (.ifc t r.1,r.2)
   |none=>none
  | .agg cs=>match cM (snapD n en) cs with
   |some rs=>some (.agg (rs.map (·.1)),rs.flatMap (·.2))
   |none=>none
  | .tup vs=>match cM (snapD n en) vs with
   |some rs=>some (.tup (rs.map (·.1)),rs.flatMap (·.2))
   |none=>none
  |v=>some (v,[])
variable {α:Type}
theorem zF {β:Type}{f g:α->Option β}(h: ∀x y,f x=some y->g x=some y): ∀{l:List α} {r:List β},cM f l=some r->cM g l=some r:=by
 intro l
 induction l with
 |nil=>intro r h';exact h'
 |cons x xs ih=>
  intro r h';simp only[cM]at h'⊢
  split at h'
  ·rename_i y hy
   split at h'
   ·rename_i ys hys;rw[h x y hy,ih hys];exact h'
   ·cases h'
  ·cases h'
theorem tD (en:En): ∀(n:Nat) (v:Val) (r:Val×List Key),snapD n en v=some r-> ∀m,n<=m->snap m en v=some r:=by
 intro n
 induction n with
 |zero=>intro v r h;simp[snapD]at h
 |succ n ih=>
  intro v r h m hm;obtain⟨m,rfl⟩: ∃k,m=k+1:=⟨m-1,by omega⟩
  have hl: ∀{l:List Val} {rs:List (Val×List Key)},cM (snapD n en) l=some rs->cM (snap m en) l=some rs:=
   fun h=>zF (fun x y hx=>ih x y hx m (by omega)) h
  cases v with
  |ptr k off=>
   simp only[snapD]at h;simp only[snap]
   split at h
   ·rename_i hk
    split at h
    ·rename_i hrs;simp only[bN7]at h;subst h;simp only[hk,hl hrs,Option.map]
    ·cases h
   ·cases h
  |bl k off len=>
   simp only[snapD]at h;simp only[snap]
   split at h
   case h_2=>cases h
   rename_i hk
   split at h
   ·cases h
   rename_i hd
   split at h
   case isFalse=>cases h
   rename_i hl;simp only[hk,if_neg hd,if_pos hl];exact h
  |fn f a b=>
   simp only[snapD]at h;simp only[snap]
   split at h
   ·rename_i hx
    split at h
    ·rename_i hy;simp only[bN7]at h;subst h;simp only[hl hx,hl hy,Option.map]
    ·cases h
   ·cases h
  |ifc t v=>
   simp only[snapD]at h;simp only[snap]
   split at h
   ·rename_i hx;simp only[bN7]at h;subst h;simp only[ih _ _ hx m (by omega),Option.map]
   ·cases h
  |agg cs=>
   simp only[snapD]at h;simp only[snap]
   split at h
   ·rename_i hx;simp only[bN7]at h;subst h;simp only[hl hx,Option.map]
   ·cases h
  |tup vs=>
   simp only[snapD]at h;simp only[snap]
   split at h
   ·rename_i hx;simp only[bN7]at h;subst h;simp only[hl hx,Option.map]
   ·cases h
  |_=>exact h
def cO (d g:Nat)(en:En)(get:Opd->Val):LOp->Option Res
 | .bslice len size z parts=>
  if len*size<=16777216 then
   match cM (fun p=>match snapD 8 en (get p.2)with|some r=>some ((p.1,r.1.wk1),r.2)|none=>none) parts with
   |some ps=>match dM (List.replicate len (iK size z false)) size (ps.map (·.1))with
    |some xs=>some {v:= .cl xs,ws:=(ps.flatMap (·.2)).map .frz,rs:=(ps.flatMap (·.2)).map .val}
    |none=>none
   |none=>none
  else none
 | .store m a x=>
  let v:=get x
  if v.one=true/\ v.cells.length=m then
   match get a with
   | .ptr k off=>match en k with
    |some (.box cs false)=>if off+m<=cs.length then some {v:= .tup [],ws:=[.cells k off v.cells],rs:=[.flag k]}else none
    |_=>none
   | .ep k i off=>match en k with
    |some (.blk _ xs false)=>match xs[i]? with
     |some y=>if off+m<=y.cells.length then
       if k.deep then none else
       match snapD 8 en v with
       |some (v',ks)=>if v'.one=true/\ v'.cells.length=m/\ ks.all (fun k'=>decide (k'≠k))=true then some {v:= .tup [],ws:=ks.map .frz++[.elem k i off v'.wk1.cells],rs:= .val k:: .flag k::ks.map .val}else none
       |none=>none
      else none
     |none=>none
    |_=>none
   |_=>none
  else none
 | .call _ _| .icall _ _| .appendD .. | .bsliceK .. =>none
 |op=>eval 8 bD5 0 d g en get op
theorem aX5 {r:Res}(h:cO d g en get op=some r)(call:bC)(n:Nat)(hn:8<=n):
  eval n call 0 d g en get op=some r:=by
 cases op with
 |bslice len size z parts=>
  simp only[cO]at h;simp only[eval]
  split at h
  ·rename_i hc;rw[if_pos hc]
   split at h
   ·rename_i ps hps;have:cM (fun p=>(snap n en (get p.2)).map fun r=>((p.1,r.1.wk1),r.2)) parts=some ps:=by
     refine zF (fun x y hx=>?_) hps
     split at hx
     ·rename_i r hr;simp only[bN7]at hx;subst hx;rw[tD en 8 _ _ hr n hn];rfl
     ·cases hx
    rw[this];exact h
   ·cases h
  ·cases h
 |store m a x=>
  simp only[cO]at h;simp only[eval]
  split at h
  ·rename_i hc;rw[if_pos hc]
   split at h
   ·rename_i hg;simp only[hg];exact h
   ·rename_i hg;simp only[hg]
    split at h
    ·rename_i he;simp only[he]
     split at h
     ·rename_i hy;simp only[hy]
      split at h
      ·rename_i hl;rw[if_pos hl]
       split at h
       ·cases h
       rename_i hd;rw[if_neg hd]
       split at h
       ·rename_i hs;simp only[tD en 8 _ _ hs n hn];exact h
       ·cases h
      ·cases h
     ·cases h
    ·cases h
   ·cases h
  ·cases h
 |call f a=>simp[cO]at h
 |icall f a=>simp[cO]at h
 |appendD=>simp[cO]at h
 |bsliceK=>simp[cO]at h
 |_=>exact h
def WOp (L:bG)(d g:Nat)(en:En)(get:Opd->Val)(op:LOp)(K:Res->Prop):Prop:=
 match op with
 | .call f args=>match get f with
  | .fn f a b=>match cM (snapD 8 en) (a++args.map get++b)with
   |some rs=> ∃r,PC L f (rs.map (·.1.wk1)) r/\ K (fY 0 d g r (rs.flatMap (·.2)))
   |none=>False
  |_=>False
 |op=>match cO d g en get op with
  |some r=>K r
  |none=>False
theorem bD6 {L:bG}{K:Res->Prop}(h:WOp L d g en get op K):
  op.me 0=0/\ ∃r,(∃n0,∀n,n0<=n->eval 8 (kQ L n) 0 d g en get op=some r)/\ K r:=by
 have oth:(match cO d g en get op with|some r=>K r|none=>False)->op.me 0=0/\ ∃r,(∃n0,∀n,n0<=n->eval 8 (kQ L n) 0 d g en get op=some r)/\ K r:=by
  intro h
  refine⟨by cases op<;>first|rfl|simp[cO]at h,?_⟩
  split at h
  ·rename_i r hr;exact⟨r,⟨0,fun n _=>aX5 hr _ 8 (bN9 _)⟩,h⟩
  ·exact h.elim
 cases op with
 |call f args=>
  simp only[WOp]at h
  split at h
  ·rename_i f' a b hf
   split at h
   ·rename_i rs hrs;obtain⟨r,⟨n1,h1⟩,hk⟩:=h
    refine⟨rfl,_,⟨n1,fun n hn=>?_⟩,hk⟩
    have:cM (fun x=>snap 8 en x) (a++args.map get++b)=some rs:=zF (fun x y hx=>tD en 8 x y hx 8 (bN9 _)) hrs
    simp only[eval,hf,this,h1 n (by omega)]
   ·exact h.elim
  ·exact h.elim
 |_=>exact oth h
def nH (L:bG)(st:St)(o:aM)(K:St->Res->Prop):Prop:=
 match wanted st.fr o.guard with
 |some true=>match o.op with
  | .icall f args=>WIn L (St.get st.fr f) (args.map (St.get st.fr)) st.en st.cnt fun v en' cnt'=>K ⟨gH st.fr o.dst v,en',cnt'⟩ {v,mem:=some (en',cnt'),unch:=fun k=>aOo (st.en k) (en' k)}
  |op=>WOp L (o.dst.getD 0) (st.cnt 0 (o.dst.getD 0)) st.en (St.get st.fr) op fun r=>(r.bump&&o.dst.isNone)=false/\
    K ⟨gH st.fr o.dst r.v,W.applyAll st.en r.ws,if r.bump then aC st.cnt 0 (o.dst.getD 0) (st.cnt 0 (o.dst.getD 0)+1)else st.cnt⟩ r
 |some false=>K ⟨gH st.fr o.dst (.tup []),st.en,st.cnt⟩ {v:= .tup []}
 |none=>False
def iM (L:bG):List aM->St->(St->Prop)->Prop
 |[],st,Q=>Q st
 |o::l,st,Q=>nH L st o fun st' _=>iM L l st' Q
def qQ (L:bG):List aM->St->(St->List Res->Prop)->Prop
 |[],st,Q=>Q st []
 |o::l,st,Q=>nH L st o fun st' r=>qQ L l st' fun st'' rs=>Q st'' (r::rs)
def PX (L:bG)(f:Nat)(args:List Val)(v:Val):Prop:= ∃n0,∀n,n0<=n->bDj L n f args=some v
def vC (L:bG)(f:Nat)(args:List Val)(en:En)(cnt:Nat->Nat->Nat)(Q:Val->En->(Nat->Nat->Nat)->Prop):Prop:=
 ∃v en' cnt',(∃n0,∀n,n0<=n-> ∀fr,dS L (exec L n) f args ⟨fr,en,cnt⟩=some (v,⟨fr,en',cnt'⟩))/\ Q v en' cnt'
theorem vC.mono {L:bG}{R:Val->En->(Nat->Nat->Nat)->Prop}
  (h:vC L f args en cnt Q) (k: ∀v en' cnt',Q v en' cnt'->R v en' cnt'):vC L f args en cnt R:=by
 obtain⟨v,en',cnt',h1,h2⟩:=h;exact⟨v,en',cnt',h1,k _ _ _ h2⟩
def kJ (L:bG)(o:aM)(st:St)(K:Val->St->Prop):Prop:=
 match wanted st.fr o.guard with
 |some true=>match o.op with
  | .panic x=>match St.get st.fr x with
   | .ifc t u=>(Val.ifc t u).flat=true/\ K (.ifc t u) st
   |_=>False
  | .call f args=>match f.noM,St.get st.fr f with
   |true,.fn f a b=>match cM (snapD 8 st.en) (a++args.map (St.get st.fr)++b)with
    |some rs=> ∃v,PX L f (rs.map (·.1.wk1)) v/\ K v st
    |none=>False
   |_,_=>False
  | .icall f args=>match St.get st.fr f with
   | .fn f a b=>vC L f (a++args.map (St.get st.fr)++b) st.en st.cnt fun v en' cnt'=>K v ⟨st.fr,en',cnt'⟩
   |_=>False
  |_=>False
 |_=>False
theorem tE {L:bG}{o:aM}{K K':Val->St->Prop}(h:kJ L o st K)(k: ∀v s,K v s->K' v s):kJ L o st K':=by
 unfold kJ at h⊢
 split at h
 case h_2=>cases h
 split at h
 ·split at h
  case h_2=>cases h
  exact⟨h.1,k _ _ h.2⟩
 ·split at h
  case h_2=>cases h
  split at h
  case h_2=>cases h
  obtain⟨v,h1,h2⟩:=h;exact⟨v,h1,k _ _ h2⟩
 ·split at h
  case h_2=>cases h
  exact h.mono fun _ _ _=>k _ _
 ·cases h
theorem zG {L:bG}{o:aM}{K:Val->St->Prop}(h:kJ L o st K):
  ∃v st',(∃n0,∀n,n0<=n->dH 8 (cG L (exec L n)) (dS L (exec L n)) st o=some (v,st'))/\ K v st':=by
 unfold kJ at h
 split at h
 case h_2=>cases h
 rename_i hw
 split at h
 ·rename_i x hop
  split at h
  case h_2=>cases h
  rename_i t u hu;exact⟨_,_,⟨0,fun n _=>by simp only[dH,hw,hop,hu,h.1,if_true]⟩,h.2⟩
 ·rename_i f args hop
  split at h
  case h_2=>cases h
  rename_i f' a b hf1 hf2
  split at h
  case h_2=>cases h
  rename_i rs hrs;obtain⟨v,⟨n0,h1⟩,h2⟩:=h
  refine⟨v,st,⟨n0,fun n hn=>?_⟩,h2⟩
  have:cM (fun x=>snap 8 st.en x) (a++args.map (St.get st.fr)++b)=some rs:=zF (fun x y hx=>tD st.en 8 x y hx 8 (bN9 _)) hrs
  have h1:=h1 n hn;unfold bDj at h1;simp only[dH,hw,hop,hf1,hf2,this,h1,bO0]
 ·rename_i f args hop
  split at h
  case h_2=>cases h
  rename_i f' a b hf;obtain⟨v,en',cnt',⟨n0,h1⟩,h2⟩:=h;exact⟨v,_,⟨n0,fun n hn=>by simp only[dH,hw,hop,hf,h1 n hn]⟩,h2⟩
 ·cases h
def jJ (cnt:Nat->Nat->Nat):Key:=⟨1,0,cnt 1 0⟩
def Wp (L:bG):bA->St->(Ex->St->Prop)->Prop
 | .skip,st,Q=>Q .normal st
 | .ops l,st,Q=>iM L l st (Q .normal)
 | .draw l pairs,st,Q=>if pairs=[]then iM L l st (Q .normal)else qQ L l st fun st' rs=>dG rs pairs=true/\ Q .normal st'
 | .seq a b,st,Q=>Wp L a st fun e st'=>match e with
  | .normal=>Wp L b st' Q
  | .exit i=>Q (.exit i) st'
  | .ret=>Q .ret st'
  | .panic v=>Q (.panic v) st'
 | .cond x a b,st,Q=>match St.get st.fr x with
  | .bool t=>if t=true then Wp L a st Q else Wp L b st Q
  |_=>False
 | .block id b,st,Q=>Wp L b st fun e st'=>match e with
  | .exit id'=>if id'=id then Q .normal st' else Q (.exit id') st'
  | .normal=>Q .normal st'
  | .ret=>Q .ret st'
  | .panic v=>Q (.panic v) st'
 | .loop b,st,Q=> ∃e st',Ev L (.loop b) st e st'/\ Q e st'
 | .exit id,st,Q=>Q (.exit id) st
 | .ret,st,Q=>Q .ret st
 | .rangeF g ps a b,st,Q=>
  match St.get st.fr g with
  | .fn f x y=>(WIn L (.fn f x y) [.yld (jJ st.cnt)] (st.en.set (jJ st.cnt) (some (.loop st.fr ps a b .ready))) (aC st.cnt 1 0 (st.cnt 1 0+1)) fun _ en' cnt'=>
   match en' (jJ st.cnt)with
   |some (.loop _ _ _ _ .ready)=>Q .normal ⟨st.fr,en'.set (jJ st.cnt) none,cnt'⟩
   |some (.loop _ _ _ _ (.done e))=>Q e ⟨st.fr,en'.set (jJ st.cnt) none,cnt'⟩
   |_=>False) \/vC L f (x++[.yld (jJ st.cnt)]++y) (st.en.set (jJ st.cnt) (some (.loop st.fr ps a b .ready))) (aC st.cnt 1 0 (st.cnt 1 0+1)) fun v en' cnt'=>Q (.panic v) ⟨st.fr,en'.set (jJ st.cnt) none,cnt'⟩
  |_=>False
 | .opsP l,st,Q=>iM L l st (Q .normal) \/ ∃k o,l[k]?=some o/\ iM L (l.take k) st fun st1=>kJ L o st1 fun v st2=>Q (.panic v) st2
 | .drawP l an pairs,st,Q=>(qQ L l st fun st' rs=>dG rs pairs=true/\ Q .normal st') \/
   ∃j o,l[j]?=some o/\ (iM L (l.take j) st fun s=>kJ L o s fun _ _=>True)/\ qQ L (cT an j l) st fun st1 rs=>(dG rs pairs&&jI an j l rs)=true/\
    kJ L o st1 fun v st2=>Q (.panic v) ⟨fun t=>if lW l t then .tup []else st2.fr t,st2.en,st2.cnt⟩
 | .drawL l an pairs A,st,Q=>(qQ L (iO A (gW st (l.getD A default)) l) (uH (gW st (l.getD A default)) (aK6 (l.getD A default).op) st) fun st' rs=>(dG rs pairs&&nS an A (gW st (l.getD A default)) rs)=true/\ Q .normal st') \/
   ∃j o,(iO A (gW st (l.getD A default)) l)[j]?=some o/\ (iM L ((iO A (gW st (l.getD A default)) l).take j) (uH (gW st (l.getD A default)) (aK6 (l.getD A default).op) st) fun s=>kJ L o s fun _ _=>True)/\
    qQ L (cT an j (iO A (gW st (l.getD A default)) l)) (uH (gW st (l.getD A default)) (aK6 (l.getD A default).op) st) fun st1 rs=>((dG rs pairs&&jI an j (iO A (gW st (l.getD A default)) l) rs)&&nS an A (gW st (l.getD A default)) rs)=true/\
    kJ L o st1 fun v st2=>Q (.panic v) ⟨fun t=>if lW (iO A (gW st (l.getD A default)) l) t then .tup []else st2.fr t,st2.en,st2.cnt⟩
 | .dfr ts l f args b,st,Q=>iM L l st fun st2=>Wp L b st2 fun e st3=>ts.any (fun t=>(st3.fr t).isUndef)=false/\
   ∃st4,(∃n0,∀n,n0<=n->gK L (exec L n) (St.get st2.fr f) (args.map (St.get st2.fr)) e st3=some st4)/\ Q .ret st4
 | .rcv _ _ _,_,_=>False
variable {call:bC}{io:Inl}
theorem bAz {n:Nat}{o:aM}{r:Res}(hme:o.op.me 0=0)(hne: ∀f a,o.op≠ .icall f a)(hw:wanted st.fr o.guard=some true)
  (he:eval n call 0 (o.dst.getD 0) (st.cnt 0 (o.dst.getD 0)) st.en (St.get st.fr) o.op=some r) (hb:(r.bump&&o.dst.isNone)=false):
  step n call io 0 st o=some (⟨gH st.fr o.dst r.v,W.applyAll st.en r.ws,if r.bump then aC st.cnt 0 (o.dst.getD 0) (st.cnt 0 (o.dst.getD 0)+1)else st.cnt⟩,r):=by
 obtain⟨dst,op,guard⟩:=o
 simp only at hw he hb hne hme
 cases op with
 |icall f a=>exact absurd rfl (hne _ _)
 |_=>simp only[step,hw,hme,he,hb,bOa,if_false]
theorem aT2 {L:bG}{o:aM}{K:St->Res->Prop}(h:nH L st o K):
  ∃st' r,(∃n0,∀n,n0<=n->step 8 (kQ L n) (eJ L (exec L n)) 0 st o=some (st',r))/\ K st' r:=by
 unfold nH at h
 split at h
 ·rename_i hw
  split at h
  ·rename_i f args hop;obtain⟨v,en',cnt',⟨n0,hn⟩,hk⟩:=h
   refine⟨_,_,⟨n0,fun n hn'=>?_⟩,hk⟩
   simp only[step,hw,hop,hn n hn']
  ·rename_i op hne;obtain⟨hme,r,⟨n0,hn⟩,hb,hk⟩:=bD6 h;exact⟨_,r,⟨n0,fun n hn'=>bAz hme (fun f a=>hne f a) hw (hn n hn') hb⟩,hk⟩
 ·rename_i hw;exact⟨_,_,⟨0,fun n _=>by simp only[step,hw]⟩,h⟩
 ·exact h.elim
theorem zH {L:bG}(l:List aM): ∀{st:St} {Q:St->Prop},iM L l st Q->
  ∃st',(∃n0,∀n,n0<=n->fR 8 (kQ L n) (eJ L (exec L n)) 0 l st=some st')/\ Q st':=by
 induction l with
 |nil=>intro st Q h;exact⟨st,⟨0,fun n _=>rfl⟩,h⟩
 |cons o l ih=>
  intro st Q h;obtain⟨st1,r,⟨n1,h1⟩,hk⟩:=aT2 h;obtain⟨st2,⟨n2,h2⟩,hq⟩:=ih hk;exact⟨st2,⟨max n1 n2,fun n hn=>by simp only[fR,h1 n (by omega),h2 n (by omega)]⟩,hq⟩
theorem aIn {L:bG}(l:List aM): ∀{st:St} {Q:St->List Res->Prop},qQ L l st Q->
  ∃st' rs,(∃n0,∀n,n0<=n->iL 8 (kQ L n) (eJ L (exec L n)) 0 l st=some (st',rs))/\ Q st' rs:=by
 induction l with
 |nil=>intro st Q h;exact⟨st,[],⟨0,fun n _=>rfl⟩,h⟩
 |cons o l ih=>
  intro st Q h;obtain⟨st1,r,⟨n1,h1⟩,hk⟩:=aT2 h;obtain⟨st2,rs,⟨n2,h2⟩,hq⟩:=ih hk;exact⟨st2,r::rs,⟨max n1 n2,fun n hn=>by simp only[iL,h1 n (by omega),h2 n (by omega)]⟩,hq⟩
theorem aE5 {n:Nat}(l:List aM): ∀{st st':St},fR n call io 0 l st=some st'-> ∃rs,iL n call io 0 l st=some (st',rs):=by
 induction l with
 |nil=>intro st st' h;simp only[fR,bN7]at h;subst h;exact⟨[],rfl⟩
 |cons o l ih=>
  intro st st' h;simp only[fR]at h
  split at h
  ·rename_i st1 r hs;obtain⟨rs,hr⟩:=ih h;exact⟨r::rs,by simp only[iL,hs,hr]⟩
  ·cases h
theorem aT3 {L:bG}{x:bA->St->Option (Ex×St)}{k:Nat}: ∀(l:List aM) {st st':St},fR 8 (bK L k x) (eJ L x) 0 l st=some st'->aCy 8 (bK L k x) (eJ L x) (cG L x) (dS L x) l st=some (.normal,st')
 |[],st,st',h=>by simp only[fR,bN7]at h;subst h;rfl
 |o::l,st,st',h=>by
  simp only[fR]at h
  split at h
  case h_2=>cases h
  rename_i hs;have hn:dH 8 (cG L x) (dS L x) st o=none:=by
   cases hq:dH 8 (cG L x) (dS L x) st o with
   |none=>rfl
   |some q=>rw[zD hq]at hs;cases hs
  simp only[aCy,hn,hs];exact aT3 l h
theorem aDf {L:bG}{x:bA->St->Option (Ex×St)}{k:Nat}: ∀(l:List aM) {j:Nat} {o:aM} {st st':St} {v:Val} {st2:St},l[j]?=some o->fR 8 (bK L k x) (eJ L x) 0 (l.take j) st=some st'->
  dH 8 (cG L x) (dS L x) st' o=some (v,st2)->aCy 8 (bK L k x) (eJ L x) (cG L x) (dS L x) l st=some (.panic v,st2)/\ ∀i,oS 8 (bK L k x) (eJ L x) (cG L x) (dS L x) l i st=some (i+j)
 |[],j,o,st,st',v,st2,hj,_,_=>by simp at hj
 |o'::l,0,o,st,st',v,st2,hj,hr,hp=>by
  simp only[bQn,bN7]at hj;subst hj;simp only[bOm,fR,bN7]at hr;subst hr;exact⟨by simp only[aCy,hp],fun i=>by simp only[oS,hp,bPo]⟩
 |o'::l,j+1,o,st,st',v,st2,hj,hr,hp=>by
  simp only[bRk]at hj;simp only[bOp,fR]at hr
  split at hr
  case h_2=>cases hr
  rename_i hs;have hn:dH 8 (cG L x) (dS L x) st o'=none:=by
   cases hq:dH 8 (cG L x) (dS L x) st o' with
   |none=>rfl
   |some q=>rw[zD hq]at hs;cases hs
  obtain⟨h1,h2⟩:=aDf l hj hr hp
  refine⟨by simp only[aCy,hn,hs];exact h1,fun i=>?_⟩
  simp only[oS,hn,hs];rw[h2 (i+1)]
  congr 1;omega
theorem aGz {L:bG}{ex:bA->St->Option (Ex×St)}{r:Val×St}(h:dS L ex f args st=some r):yU L ex f args st=none:=by
 unfold dS at h
 split at h
 ·cases h
 rename_i lf hL
 split at h
 case isFalse=>cases h
 rename_i hc;have:jZ L ex f args st=none:=by
  simp only[jZ,hL,hc.1,if_true,hc.2,bOa,if_false]
  split at h
  ·rename_i v st' he;rw[he];rfl
  ·cases h
 simp only[yU,this]
theorem aDg {L:bG}(c:bA): ∀{st:St} {Q:Ex->St->Prop},Wp L c st Q-> ∃e st',Ev L c st e st'/\ Q e st':=by
 induction c with
 |skip=>intro st Q h;exact⟨.normal,st,⟨1,fun n hn=>by obtain⟨m,rfl⟩: ∃m,n=m+1:=⟨n-1,by omega⟩;rfl⟩,h⟩
 |ops l=>
  intro st Q h;obtain⟨st',⟨n0,h0⟩,hq⟩:=zH l h
  refine⟨.normal,st',⟨n0+1,fun n hn=>?_⟩,hq⟩
  obtain⟨m,rfl⟩: ∃m,n=m+1:=⟨n-1,by omega⟩
  have:=h0 m (by omega)
  simp only[kQ]at this;simp only[exec,this,Option.map]
 |draw l pairs=>
  intro st Q h;simp only[Wp]at h
  split at h
  ·rename_i hp;obtain⟨st',⟨n0,h0⟩,hq⟩:=zH l h
   refine⟨.normal,st',⟨n0+1,fun n hn=>?_⟩,hq⟩
   obtain⟨m,rfl⟩: ∃m,n=m+1:=⟨n-1,by omega⟩
   obtain⟨rs,hr⟩:=aE5 l (h0 m (by omega))
   simp only[kQ]at hr;simp only[exec,hr,hp,dG,List.all_nil,if_true]
  ·obtain⟨st',rs,⟨n0,h0⟩,hp,hq⟩:=aIn l h
   refine⟨.normal,st',⟨n0+1,fun n hn=>?_⟩,hq⟩
   obtain⟨m,rfl⟩: ∃m,n=m+1:=⟨n-1,by omega⟩
   have hr:=h0 m (by omega)
   simp only[kQ]at hr;simp only[exec,hr,hp,if_true]
 |seq a b iha ihb=>
  intro st Q h;obtain⟨e,st1,⟨n1,h1⟩,hk⟩:=iha h;cases e with
  |normal=>
   obtain⟨e2,st2,⟨n2,h2⟩,hq⟩:=ihb hk
   refine⟨e2,st2,⟨max n1 n2+1,fun n hn=>?_⟩,hq⟩
   obtain⟨m,rfl⟩: ∃m,n=m+1:=⟨n-1,by omega⟩
   simp only[exec,h1 m (by omega),h2 m (by omega)]
  |exit id=>
   refine⟨_,st1,⟨n1+1,fun n hn=>?_⟩,hk⟩
   obtain⟨m,rfl⟩: ∃m,n=m+1:=⟨n-1,by omega⟩
   simp only[exec,h1 m (by omega)]
  |ret=>
   refine⟨_,st1,⟨n1+1,fun n hn=>?_⟩,hk⟩
   obtain⟨m,rfl⟩: ∃m,n=m+1:=⟨n-1,by omega⟩
   simp only[exec,h1 m (by omega)]
  |panic v=>
   refine⟨_,st1,⟨n1+1,fun n hn=>?_⟩,hk⟩
   obtain⟨m,rfl⟩: ∃m,n=m+1:=⟨n-1,by omega⟩
   simp only[exec,h1 m (by omega)]
 |cond x a b iha ihb=>
  intro st Q h;simp only[Wp]at h
  split at h
  ·rename_i t ht;cases t with
   |true=>
    obtain⟨e,st1,⟨n1,h1⟩,hk⟩:=iha (by simpa using h)
    refine⟨e,st1,⟨n1+1,fun n hn=>?_⟩,hk⟩
    obtain⟨m,rfl⟩: ∃m,n=m+1:=⟨n-1,by omega⟩
    simp only[exec,ht,h1 m (by omega)]
   |false=>
    obtain⟨e,st1,⟨n1,h1⟩,hk⟩:=ihb (by simpa using h)
    refine⟨e,st1,⟨n1+1,fun n hn=>?_⟩,hk⟩
    obtain⟨m,rfl⟩: ∃m,n=m+1:=⟨n-1,by omega⟩
    simp only[exec,ht,h1 m (by omega)]
  ·exact h.elim
 |block id b ih=>
  intro st Q h;obtain⟨e,st1,⟨n1,h1⟩,hk⟩:=ih h;cases e with
  |exit id'=>
   simp only at hk
   by_cases hi:id'=id
   ·rw[if_pos hi]at hk
    refine⟨.normal,st1,⟨n1+1,fun n hn=>?_⟩,hk⟩
    obtain⟨m,rfl⟩: ∃m,n=m+1:=⟨n-1,by omega⟩
    simp only[exec,h1 m (by omega),hi,if_true]
   ·rw[if_neg hi]at hk
    refine⟨.exit id',st1,⟨n1+1,fun n hn=>?_⟩,hk⟩
    obtain⟨m,rfl⟩: ∃m,n=m+1:=⟨n-1,by omega⟩
    simp only[exec,h1 m (by omega),hi,if_false]
  |normal=>
   refine⟨_,st1,⟨n1+1,fun n hn=>?_⟩,hk⟩
   obtain⟨m,rfl⟩: ∃m,n=m+1:=⟨n-1,by omega⟩
   simp only[exec,h1 m (by omega)]
  |ret=>
   refine⟨_,st1,⟨n1+1,fun n hn=>?_⟩,hk⟩
   obtain⟨m,rfl⟩: ∃m,n=m+1:=⟨n-1,by omega⟩
   simp only[exec,h1 m (by omega)]
  |panic v=>
   refine⟨_,st1,⟨n1+1,fun n hn=>?_⟩,hk⟩
   obtain⟨m,rfl⟩: ∃m,n=m+1:=⟨n-1,by omega⟩
   simp only[exec,h1 m (by omega)]
 |loop b ih=>intro st Q h;exact h
 |exit id=>intro st Q h;exact⟨.exit id,st,⟨1,fun n hn=>by obtain⟨m,rfl⟩: ∃m,n=m+1:=⟨n-1,by omega⟩;rfl⟩,h⟩
 |ret=>intro st Q h;exact⟨.ret,st,⟨1,fun n hn=>by obtain⟨m,rfl⟩: ∃m,n=m+1:=⟨n-1,by omega⟩;rfl⟩,h⟩
 |rangeF g ps a b=>
  intro st Q h;simp only[Wp]at h
  split at h
  ·rename_i f x y hg;rcases h with h|⟨v,en',cnt',⟨n1,h1⟩,hk⟩
   case inr=>
    refine⟨_,_,⟨n1+1,fun n hn=>?_⟩,hk⟩
    obtain⟨m,rfl⟩: ∃m,n=m+1:=⟨n-1,by omega⟩
    have hi:=h1 m (by omega) st.fr
    simp only[jJ]at hi;simp only[exec,hg,mP,jJ,aGz hi,hi]
   obtain⟨v,en',cnt',⟨n1,h1⟩,hk⟩:=h;have run: ∀n,n1+1<=n-> ∀r,(match en' (jJ st.cnt)with
     |some (.loop _ _ _ _ .ready)=>some (Ex.normal,{fr:=st.fr,en:=en'.set (jJ st.cnt) none,cnt:=cnt':St})
     |some (.loop _ _ _ _ (.done e))=>some (e,{fr:=st.fr,en:=en'.set (jJ st.cnt) none,cnt:=cnt'})
     |_=>none)=some r->exec L n (.rangeF g ps a b) st=some r:=by
    intro n hn r hr;obtain⟨m,rfl⟩: ∃m,n=m+1:=⟨n-1,by omega⟩
    have hi:=h1 m (by omega) st.fr
    simp only[Inl.call,eJ]at hi;simp only[exec,hg,mP];simp only[jJ]at hi hr;rw[hi];exact hr
   split at hk
   ·rename_i hl;exact⟨_,_,⟨n1+1,fun n hn=>run n hn _ (by simp only[hl])⟩,hk⟩
   ·rename_i hl;exact⟨_,_,⟨n1+1,fun n hn=>run n hn _ (by simp only[hl])⟩,hk⟩
   ·exact hk.elim
  ·exact h.elim
 |rcv d l b=>intro st Q h;exact h.elim
 |opsP l=>
  intro st Q h;rcases h with h|⟨k,o,hk,h⟩
  ·obtain⟨st',⟨n0,h0⟩,hq⟩:=zH l h
   refine⟨.normal,st',⟨n0+1,fun n hn=>?_⟩,hq⟩
   obtain⟨m,rfl⟩: ∃m,n=m+1:=⟨n-1,by omega⟩
   rw[exec];exact aT3 l (h0 m (by omega))
  ·obtain⟨st1,⟨n0,h0⟩,hp⟩:=zH _ h;obtain⟨v,st2,⟨n1,h1⟩,hq⟩:=zG hp
   refine⟨.panic v,st2,⟨max n0 n1+1,fun n hn=>?_⟩,hq⟩
   obtain⟨m,rfl⟩: ∃m,n=m+1:=⟨n-1,by omega⟩
   rw[exec];exact(aDf l hk (h0 m (by omega)) (h1 m (by omega))).1
 |drawP l an pairs=>
  intro st Q h;rcases h with h|⟨j,o,hj,h1,h2⟩
  ·obtain⟨st',rs,⟨n0,h0⟩,hp,hq⟩:=aIn l h
   refine⟨.normal,st',⟨n0+1,fun n hn=>?_⟩,hq⟩
   obtain⟨m,rfl⟩: ∃m,n=m+1:=⟨n-1,by omega⟩
   have hr:=h0 m (by omega)
   simp only[kQ]at hr;simp only[exec,tC l hr,hr,hp,if_true]
  ·obtain⟨s,⟨n0,h0⟩,hp0⟩:=zH _ h1;obtain⟨v0,s2,⟨n1,hn1⟩,_⟩:=zG hp0;obtain⟨st1,rs,⟨n2,hn2⟩,hc,hp⟩:=aIn _ h2;obtain⟨v,st2,⟨n3,hn3⟩,hq⟩:=zG hp
   refine⟨_,_,⟨max (max n0 n1) (max n2 n3)+1,fun n hn=>?_⟩,hq⟩
   obtain⟨m,rfl⟩: ∃m,n=m+1:=⟨n-1,by omega⟩
   have hf:=(aDf l hj (h0 m (by omega)) (hn1 m (by omega))).2 0
   rw[bO1]at hf;have hr:=hn2 m (by omega)
   simp only[kQ]at hr;have hoj:l.getD j default=o:=by simp[bOd,hj]
   simp only[exec,hf,uG,hr,hc,if_true,hoj,hn3 m (by omega)]
 |drawL l an pairs A=>
  intro st Q h;rcases h with h|⟨j,o,hj,h1,h2⟩
  ·obtain⟨st',rs,⟨n0,h0⟩,hp,hq⟩:=aIn _ h
   refine⟨.normal,st',⟨n0+1,fun n hn=>?_⟩,hq⟩
   obtain⟨m,rfl⟩: ∃m,n=m+1:=⟨n-1,by omega⟩
   have hr:=h0 m (by omega)
   simp only[kQ]at hr;rw[exec];unfold vS;simp only[tC _ hr,hr,hp,if_true]
  ·obtain⟨s,⟨n0,h0⟩,hp0⟩:=zH _ h1;obtain⟨v0,s2,⟨n1,hn1⟩,_⟩:=zG hp0;obtain⟨st1,rs,⟨n2,hn2⟩,hc,hp⟩:=aIn _ h2;obtain⟨v,st2,⟨n3,hn3⟩,hq⟩:=zG hp
   refine⟨_,_,⟨max (max n0 n1) (max n2 n3)+1,fun n hn=>?_⟩,hq⟩
   obtain⟨m,rfl⟩: ∃m,n=m+1:=⟨n-1,by omega⟩
   have hf:=(aDf _ hj (h0 m (by omega)) (hn1 m (by omega))).2 0
   rw[bO1]at hf;have hr:=hn2 m (by omega)
   simp only[kQ]at hr;have hoj:(iO A (gW st (l.getD A default)) l).getD j default=o:=by rw[bOd,hj];rfl
   rw[exec];unfold vS;simp only[hf,hr,hc,if_true,hoj,hn3 m (by omega)]
 |dfr ts l f args b ih=>
  intro st Q h;obtain⟨st2,⟨n0,h0⟩,hb⟩:=zH l h;obtain⟨e,st3,⟨n1,h1⟩,hts,st4,⟨n2,h2⟩,hq⟩:=ih hb
  refine⟨.ret,st4,⟨max n0 (max n1 n2)+1,fun n hn=>?_⟩,hq⟩
  obtain⟨m,rfl⟩: ∃m,n=m+1:=⟨n-1,by omega⟩
  have hr:=h0 m (by omega)
  simp only[kQ]at hr;simp only[exec,hr,h1 m (by omega),hts,bOa,if_false,h2 m (by omega),bO0]
theorem wp_loop {L:bG}{b:bA}{Q:Ex->St->Prop}(I:α->St->Prop)(μ:α->Nat)(x:α)(h0:I x st)
  (hr: ∀x st,I x st->Wp L b st fun e st'=>match e with
   | .normal=> ∃y,I y st'/\ μ y<μ x
   | .exit i=>Q (.exit i) st'
   | .ret=>Q .ret st'
   | .panic v=>Q (.panic v) st'):Wp L (.loop b) st Q:=by
 have key: ∀m x st,μ x=m->I x st-> ∃e st',Ev L (.loop b) st e st'/\ Q e st':=by
  intro m
  induction m using Nat.strongRecOn with
  |_ m ih=>
   intro x st hm hI;obtain⟨e,st1,⟨n1,h1⟩,hk⟩:=aDg b (hr x st hI);cases e with
   |normal=>
    obtain⟨y,hy,hlt⟩:=hk;obtain⟨e2,st2,⟨n2,h2⟩,hq⟩:=ih (μ y) (hm▸hlt) y st1 rfl hy
    refine⟨e2,st2,⟨max n1 n2+1,fun n hn=>?_⟩,hq⟩
    obtain⟨m',rfl⟩: ∃m,n=m+1:=⟨n-1,by omega⟩
    simp only[exec,h1 m' (by omega),h2 m' (by omega)]
   |exit id=>
    refine⟨_,st1,⟨n1+1,fun n hn=>?_⟩,hk⟩
    obtain⟨m',rfl⟩: ∃m,n=m+1:=⟨n-1,by omega⟩
    simp only[exec,h1 m' (by omega)]
   |ret=>
    refine⟨_,st1,⟨n1+1,fun n hn=>?_⟩,hk⟩
    obtain⟨m',rfl⟩: ∃m,n=m+1:=⟨n-1,by omega⟩
    simp only[exec,h1 m' (by omega)]
   |panic v=>
    refine⟨_,st1,⟨n1+1,fun n hn=>?_⟩,hk⟩
    obtain⟨m',rfl⟩: ∃m,n=m+1:=⟨n-1,by omega⟩
    simp only[exec,h1 m' (by omega)]
 exact key _ x st rfl h0
theorem wp_mono {L:bG}(c:bA): ∀{st:St} {Q R:Ex->St->Prop},Wp L c st Q->(∀e st',Q e st'->R e st')->Wp L c st R:=by
 have stp: ∀{st:St} {o:aM} {K K':St->Res->Prop},nH L st o K->(∀s r,K s r->K' s r)->nH L st o K':=by
  intro st o K K' h hk;unfold nH at h⊢;split
  ·rename_i hw;simp only[hw]at h;split
   ·rename_i f args hop;simp only[hop]at h;exact h.mono fun _ _ _=>hk _ _
   ·rename_i op hne;have h':WOp L (o.dst.getD 0) (st.cnt 0 (o.dst.getD 0)) st.en (St.get st.fr) o.op fun r=>(r.bump&&o.dst.isNone)=false/\
      K ⟨gH st.fr o.dst r.v,W.applyAll st.en r.ws,if r.bump then aC st.cnt 0 (o.dst.getD 0) (st.cnt 0 (o.dst.getD 0)+1)else st.cnt⟩ r:=by
     split at h
     ·rename_i f a hx;exact absurd hx (hne f a)
     ·exact h
    have oth: ∀{K K':Res->Prop},(∀r,K r->K' r)->(match cO (o.dst.getD 0) (st.cnt 0 (o.dst.getD 0)) st.en (St.get st.fr) o.op with|some r=>K r|none=>False)->
      (match cO (o.dst.getD 0) (st.cnt 0 (o.dst.getD 0)) st.en (St.get st.fr) o.op with|some r=>K' r|none=>False):=by
     intro K K' hk h;split<;>rename_i hr<;>simp only[hr]at h;exact hk _ h
    have mono: ∀{K K':Res->Prop},(∀r,K r->K' r)->WOp L (o.dst.getD 0) (st.cnt 0 (o.dst.getD 0)) st.en (St.get st.fr) o.op K->WOp L (o.dst.getD 0) (st.cnt 0 (o.dst.getD 0)) st.en (St.get st.fr) o.op K':=by
     intro K K' hk h;generalize hop:o.op=op at h⊢oth;cases op with
     |call f args=>
      simp only[WOp]at h⊢
      split at h
      ·split at h
       ·obtain⟨r,h1,h2⟩:=h;exact⟨r,h1,hk _ h2⟩
       ·exact h.elim
      ·exact h.elim
     |_=>exact oth hk h
    exact mono (fun r ⟨h1,h2⟩=>⟨h1,hk _ _ h2⟩) h'
  ·rename_i hw;simp only[hw]at h;exact hk _ _ h
  ·rename_i hw;simp only[hw]at h
 have ops: ∀(l:List aM) {st:St} {Q R:St->Prop},iM L l st Q->(∀s,Q s->R s)->iM L l st R:=by
  intro l
  induction l with
  |nil=>intro st Q R h k;exact k _ h
  |cons o l ih=>intro st Q R h k;exact stp h fun s r hs=>ih hs k
 have rec_: ∀(l:List aM) {st:St} {Q R:St->List Res->Prop},qQ L l st Q->(∀s rs,Q s rs->R s rs)->qQ L l st R:=by
  intro l
  induction l with
  |nil=>intro st Q R h k;exact k _ _ h
  |cons o l ih=>intro st Q R h k;exact stp h fun s r hs=>ih hs fun s rs hq=>k _ _ hq
 induction c with
 |skip=>intro st Q R h k;exact k _ _ h
 |ops l=>intro st Q R h k;exact ops l h fun s=>k _ s
 |draw l pairs=>
  intro st Q R h k;simp only[Wp]at h⊢
  split at h
  ·rename_i hp;rw[if_pos hp];exact ops l h fun s=>k _ s
  ·rename_i hp;rw[if_neg hp];exact rec_ l h fun s rs ⟨h1,h2⟩=>⟨h1,k _ _ h2⟩
 |seq a b iha ihb=>
  intro st Q R h k
  refine iha h fun e st' hq=>?_
  cases e with
  |normal=>exact ihb hq k
  |exit i=>exact k _ _ hq
  |ret=>exact k _ _ hq
  |panic v=>exact k _ _ hq
 |cond x a b iha ihb=>
  intro st Q R h k;simp only[Wp]at h⊢
  split at h
  ·rename_i t ht
   split at h
   ·rename_i htt;rw[if_pos htt];exact iha h k
   ·rename_i htt;rw[if_neg htt];exact ihb h k
  ·exact h.elim
 |block id b ih=>
  intro st Q R h k
  refine ih h fun e st' hq=>?_
  cases e with
  |normal=>exact k _ _ hq
  |exit i=>
   simp only at hq⊢
   split at hq
   ·rename_i hi;rw[if_pos hi];exact k _ _ hq
   ·rename_i hi;rw[if_neg hi];exact k _ _ hq
  |ret=>exact k _ _ hq
  |panic v=>exact k _ _ hq
 |loop b ih=>intro st Q R h k;obtain⟨e,st',h1,h2⟩:=h;exact⟨e,st',h1,k _ _ h2⟩
 |exit id=>intro st Q R h k;exact k _ _ h
 |ret=>intro st Q R h k;exact k _ _ h
 |rangeF g ps a b=>
  intro st Q R h k;simp only[Wp]at h⊢
  split at h
  ·rcases h with h|h
   ·refine .inl (h.mono fun v en' cnt' hq=>?_)
    split at hq
    ·exact k _ _ hq
    ·exact k _ _ hq
    ·exact hq.elim
   ·exact .inr (h.mono fun v en' cnt' hq=>k _ _ hq)
  ·exact h.elim
 |rcv d l b=>intro st Q R h k;exact h.elim
 |opsP l=>
  intro st Q R h k;rcases h with h|⟨j,o,hj,h⟩
  ·exact .inl (ops l h fun s=>k _ s)
  ·exact .inr ⟨j,o,hj,ops _ h fun s hs=>tE hs fun v s2=>k _ s2⟩
 |drawP l an pairs=>
  intro st Q R h k;rcases h with h|⟨j,o,hj,h1,h2⟩
  ·exact .inl (rec_ l h fun s rs ⟨h1,h2⟩=>⟨h1,k _ _ h2⟩)
  ·exact .inr ⟨j,o,hj,h1,rec_ _ h2 fun s rs ⟨q1,q2⟩=>⟨q1,tE q2 fun v s2=>k _ _⟩⟩
 |drawL l an pairs A=>
  intro st Q R h k;rcases h with h|⟨j,o,hj,h1,h2⟩
  ·exact .inl (rec_ _ h fun s rs ⟨h1,h2⟩=>⟨h1,k _ _ h2⟩)
  ·exact .inr ⟨j,o,hj,h1,rec_ _ h2 fun s rs ⟨q1,q2⟩=>⟨q1,tE q2 fun v s2=>k _ _⟩⟩
 |dfr ts l f args b ih=>
  intro st Q R h k;exact ops l h fun st2 hb=>ih hb fun e st3 ⟨h1,st4,h2,h3⟩=>⟨h1,st4,h2,k _ _ h3⟩
theorem bD7 {L:bG}{a b:bA}{Q:Ex->St->Prop}(M:St->Prop)
  (h:Wp L a st fun e st'=>match e with| .normal=>M st'| .exit i=>Q (.exit i) st'| .ret=>Q .ret st'| .panic v=>Q (.panic v) st') (k: ∀st',M st'->Wp L b st' Q):Wp L (.seq a b) st Q:=by
 refine wp_mono a h fun e st' hq=>?_
 cases e with
 |normal=>exact k _ hq
 |exit i=>exact hq
 |ret=>exact hq
 |panic v=>exact hq
def bA0 (st:St)(lf:iR)(r:Val):Prop:=
 match cM (oR st) lf.res with
 |some vs=>match(if lf.keep then aTs st.en (yS vs)else none)with
  |some v=>v=r
  |none=>match snapD 8 st.en (yS vs)with
   |some (v,_)=>(if lf.keep then v else v.wk)=r
   |none=>False
 |none=>False
def bD8 (L:bG)(lf:iR)(args:List Val)(r:Val):Prop:= ∃n0,∀n,n0<=n->iH lf 8 (exec L n) args=some r
theorem oZ {L:bG}(h:Wp L lf.body (start args) fun e st=>e.ends=true/\ bA0 st lf r):bD8 L lf args r:=by
 obtain⟨e,st,⟨n1,h1⟩,he,h2⟩:=aDg _ h
 refine⟨n1,fun n hm=>?_⟩
 simp only[iH,h1 n (by omega),he,if_true,aCw]
 unfold bA0 at h2
 split at h2
 ·rename_i vs hvs;simp only[hvs]
  split at h2
  ·rename_i v hv;rw[hv,h2]
  ·rename_i hv;rw[hv]
   split at h2
   ·rename_i v ks hs;simp only[tD _ _ _ _ hs 8 (bN9 _),h2]
   ·exact h2.elim
 ·exact h2.elim
theorem aH {L:bG}(hL:L f=some lf)(hn:args.length=lf.np)(ha:vR lf args=false)
  (h:Wp L lf.body (start args) fun e st=>e.ends=true/\ bA0 st lf r):PC L f args r:=by
 obtain⟨n1,h1⟩:=oZ h
 refine⟨n1,fun n hm=>?_⟩
 simp only[kQ,bK,hL,hn,if_true,ha,bOa,if_false,h1 n (by omega)]
theorem bA1 {a b:Option Val}(ha:a=some r)(hb:b=some r)(hr:r= .cl [] \/r= .fz []):jE a b=some r:=by
 rcases hr with rfl|rfl<;>simp[ha,hb,jE]
theorem aIo {L:bG}(hL:L f=some lf)(hn:args.length=lf.np)(ha:vR lf args=true)(hr:r= .cl [] \/r= .fz [])(h1:bD8 L lf [.es true] r)(h2:bD8 L lf [.es false] r):PC L f args r:=by
 obtain⟨n1,h1⟩:=h1;obtain⟨n2,h2⟩:=h2
 refine⟨max n1 n2,fun n hm=>?_⟩
 simp only[kQ,bK,hL,hn,if_true,ha];exact bA1 (h1 n (by omega)) (h2 n (by omega)) hr
theorem bO {L:bG}{b:List Val}(hL:L f=some lf)(hn:(a++args++b).length=lf.np)(ha:vR lf (a++args++b)=false)
  (h:Wp L lf.body ⟨fun i=>(a++args++b).getD i (.tup []),en,cnt⟩ fun e st=>e.ends=true/\ match cM (oR st) lf.res with|some vs=>Q (yS vs) st.en st.cnt|none=>False) (hz:lf.nrm=[]:=by rfl):WIn L (.fn f a b) args en cnt Q:=by
 obtain⟨e,st,⟨n1,h1⟩,he,h2⟩:=aDg _ h
 split at h2
 ·rename_i vs hvs
  refine⟨_,_,_,⟨n1,fun n hm fr=>?_⟩,h2⟩
  simp only[Inl.call,eJ,yU,jZ,hL,hn,if_true,ha,bOa,if_false,h1 n hm,he,hvs,Option.map,hz,norms]
 ·exact h2.elim
def cH (en:En):Val->Option (Val×List Key)
 | .ptr k off=>some (.ptr k off,[])
 |v=>match snapD 8 en v with
  |some r=>some (r.1.wk0,r.2)
  |none=>none
def tF (en:En)(k:Key):Option En:=
 match en k with
 |some (.box cs false)=>match cM (cH en) cs with
  |some rs=>if(rs.flatMap (·.2)).contains k then none else some ((W.applyAll en ((rs.flatMap (·.2)).map .frz)).set k (some (.box (rs.map (·.1)) false)))
  |none=>none
 |_=>none
def nF (x:Val):List (List Nat)->En->Option En
 |[],en=>some en
 |p::ps,en=>match aOs en p x with
  |some k=>match tF en k with
   |some en'=>nF x ps en'
   |none=>none
  |none=>none
theorem aM8 {r:Val×List Key}(h:cH en v=some r):aCz en v=some r:=by
 cases v<;>simp only[cH,aCz]at h⊢ <;>first
  |exact h
  |(split at h
    case h_2=>cases h
    rename_i r' hr;rw[tD en 8 _ _ hr 8 (bN9 _)];exact h)
variable {en':En}
theorem aPo {k:Key}(h:tF en k=some en'):aC0 en k=some en':=by
 unfold tF at h;unfold aC0
 split at h
 ·rename_i cs hk;simp only[hk]
  split at h
  ·rename_i rs hrs;simp only[zF (fun x y hx=>aM8 hx) hrs];exact h
  ·cases h
 ·cases h
theorem aLm {x:Val}: ∀{ps:List (List Nat)} {en en':En},nF x ps en=some en'->norms x ps en=some en'
 |[],_,_,h=>h
 |p::ps,en,en',h=>by
  simp only[nF]at h;simp only[norms]
  split at h
  case h_2=>cases h
  rename_i k hk
  split at h
  case h_2=>cases h
  rename_i e1 h1;simp only[hk,aPo h1];exact aLm h
theorem qI {L:bG}{b:List Val}(hL:L f=some lf)(hn:(a++args++b).length=lf.np)(ha:vR lf (a++args++b)=false)
  (h:Wp L lf.body ⟨fun i=>(a++args++b).getD i (.tup []),en,cnt⟩ fun e st=>e.ends=true/\ match cM (oR st) lf.res with|some vs=>(match nF ((a++args++b).getD 0 .dead) lf.nrm st.en with|some en'=>Q (yS vs) en' st.cnt|none=>False)|none=>False):WIn L (.fn f a b) args en cnt Q:=by
 obtain⟨e,st,⟨n1,h1⟩,he,h2⟩:=aDg _ h
 split at h2
 ·rename_i vs hvs
  split at h2
  ·rename_i en' hen
   refine⟨_,_,_,⟨n1,fun n hm fr=>?_⟩,h2⟩
   simp only[Inl.call,eJ,yU,jZ,hL,hn,if_true,ha,bOa,if_false,h1 n hm,he,hvs,Option.map,aLm hen]
  ·exact h2.elim
 ·exact h2.elim
variable {fr:Nat->Val}
theorem aM9 {L:bG}{k:Key}{a b:bA}
  (hk:en k=some (.loop fr ps a b .ready)) (hn:args.length=ps.length)
  (h:Wp L a ⟨yT fr ps args,en,cnt⟩ fun e st=>e= .normal/\ match st.en k with
   |some (.loop fr1 ps1 a1 b1 .ready)=>Wp L b ⟨st.fr,st.en.set k (some (.loop fr1 ps1 a1 b1 .busy)),st.cnt⟩ fun e st=>match st.en k with
    |some (.loop fr2 ps2 a2 b2 .busy)=>e.calm=true/\ Q (.bool (decide (e= .normal))) (st.en.set k (some (.loop fr2 ps2 a2 b2 (if e= .normal then .ready else .done e)))) st.cnt
    |_=>False
   |_=>False):WIn L (.yld k) args en cnt Q:=by
 obtain⟨e,st,⟨n1,h1⟩,rfl,h2⟩:=aDg _ h
 split at h2
 ·rename_i fr1 ps1 a1 b1 hk1;obtain⟨e2,st2,⟨n2,h3⟩,h4⟩:=aDg _ h2
  split at h4
  ·rename_i hk2
   refine⟨_,_,_,⟨max n1 n2,fun n hm fr'=>?_⟩,h4.2⟩
   simp only[Inl.call,eJ,aCx,hk,hn,if_true,h1 n (by omega),hk1,h3 n (by omega),hk2,h4.1]
  ·exact h4.elim
 ·exact h2.elim
theorem aIp {L:bG}(hL:L f=some lf)(hn:args.length=lf.np)(ha:vR lf args=false)
  (h:Wp L lf.body (start args) fun e st=>e= .panic v):PX L f args v:=by
 obtain⟨e,st,⟨n1,h1⟩,he⟩:=aDg _ h;subst he;exact⟨n1,fun n hm=>by simp only[bDj,cG,hL,hn,ha,true_and,if_true,h1 n hm,and_self]⟩
theorem bW {L:bG}(hL:L f=some lf)(hn:args.length=lf.np)(ha:vR lf args=false)
  (h:Wp L lf.body ⟨fun i=>args.getD i (.tup []),en,cnt⟩ fun e st=>match e with| .panic v=>Q v st.en st.cnt|_=>False):vC L f args en cnt Q:=by
 obtain⟨e,st,⟨n1,h1⟩,he⟩:=aDg _ h;cases e with
 |panic v=>exact⟨v,st.en,st.cnt,⟨n1,fun n hm fr=>by simp only[dS,hL,hn,ha,true_and,if_true,h1 n hm,and_self]⟩,he⟩
 |_=>exact he.elim
variable {dst:Option Nat}
theorem sH {L:bG}{b:List Val}{c:bA}{e:Ex}{st3:St}{K:St->Prop}(hL:L g=some lf)(hb:lf.body= .rcv dst l c)(hv:e.rcvd=some v)(hn:(a++args++b).length=lf.np)(hr:lf.res=[])
  (h:iM L l ⟨gH (fun i=>(a++args++b).getD i (.tup [])) dst v,st3.en,st3.cnt⟩ fun st1=>Wp L c st1 fun e' st'=>e'.ends=true/\ K ⟨st3.fr,st'.en,st'.cnt⟩):
  ∃st4,(∃n0,∀n,n0<=n->gK L (exec L n) (.fn g a b) args e st3=some st4)/\ K st4:=by
 obtain⟨st1,⟨n0,h0⟩,h1⟩:=zH l h;obtain⟨e',st',⟨n1,h2⟩,he,hk⟩:=aDg c h1
 refine⟨_,⟨max n0 n1,fun n hm=>?_⟩,hk⟩
 have hr':=h0 n (by omega)
 simp only[kQ]at hr';simp only[gK,hL,hb,hv,hn,hr,List.isEmpty_nil,and_self,if_true,hr',h2 n (by omega),he]
theorem bD9 {L:bG}{n:Nat}(h:kQ L n f args=some r):PC L f args r:=⟨n,fun _ hm=>zE hm h⟩
variable {e:Option Ent}{t' t g' n' off size id:Nat}{u:Key->Bool}{ws:List W}{r':Option Res}{x c:Opd}{z a' xs vs ys:List Val}{k:IntKind}{b b' ok:Bool}{no yes:Prop}{v' f':Val}{K:Val->List Key->Prop}{ks:List Key}{s:ByteArray}
section
variable {L :bG}{Q:St->Prop}
@[go_sem] theorem g_t {i:Nat}:St.get fr (.t i)=fr i:=(rfl)
@[go_sem] theorem g_c :St.get fr (.c v)=v:=(rfl)
@[go_sem] theorem g_f {i:Nat}:St.get fr (.f i)= .fn i [] []:=(rfl)
@[go_sem] theorem bMt :jB fr d v d=v:=by simp[jB]
@[go_sem] theorem bMu {i:Nat}(h: ¬i=d):jB fr d v i=fr i:=by simp[jB,h]
@[go_sem] theorem bGg :gH fr (some d) v=jB fr d v:=(rfl)
@[go_sem] theorem bGh :gH fr none v=fr:=(rfl)
@[go_sem] theorem cB {k:Key}:En.set en k e k=e:=by simp[En.set]
theorem pU {k k':Key}(h:k'≠k):En.set en k e k'=en k':=by simp[En.set,h]
@[go_sem] theorem bIe {n:Nat}(h: ¬t'=t):En.set en ⟨n,t,g⟩ e ⟨n',t',g'⟩=en ⟨n',t',g'⟩:=
 pU fun he=>h (by injection he)
@[go_sem] theorem aT4 {n:Nat}(h: ¬g'=g):En.set en ⟨n,t,g⟩ e ⟨n',t',g'⟩=en ⟨n',t',g'⟩:=
 pU fun he=>h (by injection he)
@[go_sem] theorem aX6 {n x:Nat}:aC cnt n t x n t=x:=by simp[aC]
@[go_sem] theorem aX7 {n x:Nat}(h: ¬t'=t):aC cnt n t x n t'=cnt n t':=by simp[aC,h]
@[go_sem] theorem bMv (st:St):iM L [] st Q=Q st:=(rfl)
def LOp.plain :LOp->Bool
 | .call _ _| .icall _ _=>false
 |_=>true
def aIq (L:bG)(l:List aM)(dst:Option Nat)(fr:Nat->Val)(en:En)(cnt:Nat->Nat->Nat)(Q:St->Prop):Option Res->Prop
 |some r=>(r.bump&&dst.isNone)=false/\ iM L l ⟨gH fr dst r.v,W.applyAll en r.ws,if r.bump then aC cnt 0 (dst.getD 0) (cnt 0 (dst.getD 0)+1)else cnt⟩ Q
 |none=>False
@[go_sem] theorem aLn {rs:List R}{m:Option (En×(Nat->Nat->Nat))}:
  aIq L l dst fr en cnt Q (some ⟨v,ws,rs,false,m,u⟩)=iM L l ⟨gH fr dst v,W.applyAll en ws,cnt⟩ Q:=by simp[aIq]
@[go_sem] theorem aE6 {rs:List R}{m:Option (En×(Nat->Nat->Nat))}:
  aIq L l (some d) fr en cnt Q (some ⟨v,ws,rs,true,m,u⟩)=iM L l ⟨jB fr d v,W.applyAll en ws,aC cnt 0 d (cnt 0 d+1)⟩ Q:=by simp[aIq,gH]
@[go_sem] theorem bFj :aIq L l dst fr en cnt Q none=False:=(rfl)
@[congr] theorem bEa {r:Option Res}(h:r=r'):aIq L l dst fr en cnt Q r=aIq L l dst fr en cnt Q r':=by rw[h]
@[congr] theorem bEb :iM L l st Q=iM L l st Q:=(rfl)
theorem aPp (h:op.plain=true):iM L (⟨dst,op,none⟩::l) ⟨fr,en,cnt⟩ Q=
  aIq L l dst fr en cnt Q (cO (dst.getD 0) (cnt 0 (dst.getD 0)) en (St.get fr) op):=by
 cases op<;>first|(simp[LOp.plain]at h;done)|rfl|(simp only[iM,nH,wanted,WOp];rfl)
@[go_sem] theorem bKh (h:op.plain=true):iM L (⟨some d,op,none⟩::l) ⟨fr,en,cnt⟩ Q=
  aIq L l (some d) fr en cnt Q (cO d (cnt 0 d) en (St.get fr) op):=aPp h
@[go_sem] theorem bKi (h:op.plain=true):iM L (⟨none,op,none⟩::l) ⟨fr,en,cnt⟩ Q=
  aIq L l none fr en cnt Q (cO 0 (cnt 0 0) en (St.get fr) op):=aPp h
@[go_sem] theorem bMw :LOp.plain (.mv x)=true:=(rfl)
@[go_sem] theorem bIf {a b:Opd}:LOp.plain (.pick a b c)=true:=(rfl)
@[go_sem] theorem bGi :LOp.plain (.alloc z)=true:=(rfl)
@[go_sem] theorem bKj {n:Nat}:LOp.plain (.box n x)=true:=(rfl)
@[go_sem] theorem bGj {p:List (Nat×Nat×Opd)}:LOp.plain (.build z p)=true:=(rfl)
@[go_sem] theorem bFk {a b:Nat}{p:List (Nat×Opd)}:LOp.plain (.bslice a b z p)=true:=(rfl)
@[go_sem] theorem bEc {a b:Nat}{p:List (Nat×Opd)}:LOp.plain (.bsliceO a b z p)=true:=(rfl)
@[go_sem] theorem bEd {n:Nat}{y:Opd}:LOp.plain (.appendZ n z x y)=true:=(rfl)
@[go_sem] theorem bIg {a:Bool}{n:Nat}:LOp.plain (.load a n x)=true:=(rfl)
@[go_sem] theorem bGk {n:Nat}{y:Opd}:LOp.plain (.store n x y)=true:=(rfl)
@[go_sem] theorem bGl :LOp.plain (.nilck x)=true:=(rfl)
@[go_sem] theorem bKk {b:BinOp}{t:EqT}{y:Opd}:LOp.plain (.bin b t x y)=true:=(rfl)
@[go_sem] theorem bMx {u:UnOp}:LOp.plain (.un u x)=true:=(rfl)
@[go_sem] theorem bIh :LOp.plain (.wrap k x)=true:=(rfl)
@[go_sem] theorem bGm :LOp.plain (.iface t x)=true:=(rfl)
@[go_sem] theorem bFl {z:Val}:LOp.plain (.assert t z b x)=true:=(rfl)
@[go_sem] theorem bIi {a b:List Opd}:LOp.plain (.mkfn f a b)=true:=(rfl)
@[go_sem] theorem bGn  :LOp.plain (.mkmap)=true:=(rfl)
@[go_sem] theorem bIj {t:EqT}{a b:Opd}:LOp.plain (.mput t a b c)=true:=(rfl)
@[go_sem] theorem bIk {t:EqT}{z:Val}{y:Opd}:LOp.plain (.mget t z b x y)=true:=(rfl)
@[go_sem] theorem bGo {n:Nat}{y:Opd}:LOp.plain (.mklen n z x y)=true:=(rfl)
@[go_sem] theorem bGp {n:Nat}{l h m:Option Opd}:LOp.plain (.slice b n x l h m)=true:=(rfl)
@[go_sem] theorem bMy {n:Nat}:LOp.plain (.fa n x)=true:=(rfl)
@[go_sem] theorem bKl {n:Nat}:LOp.plain (.fld b n m x)=true:=(rfl)
@[go_sem] theorem bMz {n:Nat}{y:Opd}:LOp.plain (.ia n x y)=true:=(rfl)
@[go_sem] theorem bKm {n:Nat}{y:Opd}:LOp.plain (.iaa n m x y)=true:=(rfl)
@[go_sem] theorem bKn {y:Opd}:LOp.plain (.ixs x y)=true:=(rfl)
@[go_sem] theorem bKo {n:Nat}{y:Opd}:LOp.plain (.ixa b n m x y)=true:=(rfl)
@[go_sem] theorem bKp {n:Nat}:LOp.plain (.ext n x)=true:=(rfl)
@[go_sem] theorem bKq {t:EqT}:LOp.plain (.len t x)=true:=(rfl)
theorem bS {n:Nat}{y:Opd}:LOp.plain (.append n x y)=true:=(rfl)
@[go_sem] theorem bIl {n:Nat}{y:Opd}:LOp.plain (.copy n x y)=true:=(rfl)
@[go_sem] theorem bFm {l:List Opd}:LOp.plain (.minmax b l)=true:=(rfl)
@[go_sem] theorem bKr :LOp.plain (.rng x)=true:=(rfl)
@[go_sem] theorem bKs :LOp.plain (.nxt x)=true:=(rfl)
def pB (v:Val)(b:Bool)(yes no:Prop):Prop:=
 match v with
 | .bool b'=>if(b'==b)=true then yes else no
 | .tup []=>no
 |_=>False
@[congr] theorem bCm (h:v=v'):pB v b yes no=pB v' b yes no:=by rw[h]
@[go_sem] theorem bA2 :iM L (⟨dst,op,some (t,b)⟩::l) ⟨fr,en,cnt⟩ Q=
  pB (fr t) b (iM L (⟨dst,op,none⟩::l) ⟨fr,en,cnt⟩ Q) (iM L l ⟨gH fr dst (.tup []),en,cnt⟩ Q):=by
 simp only[iM,nH,wanted,pB]
 split<;>rename_i h
 ·split at h
  ·rename_i b' hb;simp only[bN7]at h;simp only[hb,h,if_true]
  ·cases h
  ·cases h
 ·split at h
  ·rename_i b' hb;simp only[bN7]at h;simp only[hb,h,bOa,if_false]
  ·rename_i hb;simp only[hb]
  ·cases h
 ·split at h
  ·cases h
  ·cases h
  ·rename_i h1 h2;split
   ·rename_i b' hb;exact absurd hb (h1 _)
   ·rename_i hb;exact absurd hb h2
   ·rfl
@[go_sem] theorem bGq :pB (.bool true) true yes no=yes:=(rfl)
@[go_sem] theorem bGr :pB (.bool false) false yes no=yes:=(rfl)
@[go_sem] theorem bGs :pB (.bool true) false yes no=no:=(rfl)
@[go_sem] theorem bGt :pB (.bool false) true yes no=no:=(rfl)
@[go_sem] theorem bGu :pB (.tup []) b yes no=no:=(rfl)
theorem bB (h:b=b'->yes)(k:b=!b'->no):pB (.bool b) b' yes no:=by
 cases b<;>cases b'<;>first|exact h rfl|exact k rfl
@[congr] theorem bFn {f:Val}{K:Val->En->(Nat->Nat->Nat)->Prop}(h:f=f')(h':a=a'):WIn L f a en cnt K=WIn L f' a' en cnt K:=by rw[h,h']
@[go_sem] theorem bIm {f:Opd}{args:List Opd}:iM L (⟨dst,.icall f args,none⟩::l) ⟨fr,en,cnt⟩ Q=
  WIn L (St.get fr f) (args.map (St.get fr)) en cnt fun v en' cnt'=>iM L l ⟨gH fr dst v,en',cnt'⟩ Q:=(rfl)
def aPq (L:bG)(f:Nat)(args:List Val)(K:Val->Prop):Prop:= ∃r,PC L f args r/\ K r
@[congr] theorem bEe {K:Val->Prop}(h:a=a'):aPq L f a K=aPq L f a' K:=by rw[h]
theorem _root_.Go.Abs.PC.ret {L:bG}(h:PC L f args r){K:Val->Prop}:aPq L f args K=K r:=
 propext ⟨fun⟨s,h1,h2⟩=>h.det h1▸h2,fun h2=>⟨r,h,h2⟩⟩
def aF6 (L:bG)(f:Nat)(o:Option (List (Val×List Key)))(K:Val->List Key->Prop):Prop:=
 match o with
 |some rs=>aPq L f (rs.map (·.1.wk1)) fun r=>K r (rs.flatMap (·.2))
 |none=>False
@[congr] theorem bCn {o o':Option (List (Val×List Key))}(h:o=o'):aF6 L f o K=aF6 L f o' K:=by rw[h]
@[go_sem] theorem bM0 {rs:List (Val×List Key)}:aF6 L f (some rs) K=aPq L f (rs.map (·.1.wk1)) fun r=>K r (rs.flatMap (·.2)):=(rfl)
def aBn (L:bG)(en:En)(f:Val)(args:List Val)(K:Val->List Key->Prop):Prop:=
 match f with
 | .fn f a b=>aF6 L f (cM (snapD 8 en) (a++args++b)) K
 |_=>False
@[congr] theorem bCo {f:Val}(h:f=f')(h':a=a'):aBn L en f a K=aBn L en f' a' K:=by rw[h,h']
@[go_sem] theorem bKt {f:Opd}{args:List Opd}:iM L (⟨dst,.call f args,none⟩::l) ⟨fr,en,cnt⟩ Q=
  aBn L en (St.get fr f) (args.map (St.get fr)) fun r ks=>aIq L l dst fr en cnt Q (some (fY 0 (dst.getD 0) (cnt 0 (dst.getD 0)) r ks)):=by
 simp only[iM,nH,wanted,WOp,aBn,aF6,aPq];cases St.get fr f<;>first|rfl|skip
@[go_sem] theorem bM1 {b:List Val}:aBn L en (.fn f a b) args K=aF6 L f (cM (snapD 8 en) (a++args++b)) K:=(rfl)
def pC :Val->Bool
 | .own _ _=>true
 |_=>false
@[go_sem] theorem bCp {sz:Nat}:fY me d g (.own sz xs) ks=
  {v:= .bl ⟨me,d,g⟩ 0 xs.length,ws:=(if xs.all Val.flat1 then []else ks.map .frz)++[.ent ⟨me,d,g⟩ (some (.blk sz xs false))],rs:=ks.map .val,bump:=true}:=(rfl)
@[go_sem] theorem bCq (h:pC v=false):fY me d g v ks={v,ws:=if v.flat then []else ks.map .frz,rs:=ks.map .val}:=by
 cases v<;>first|rfl|cases h
section
variable {i:Int}{x:ByteArray}
@[go_sem] theorem bKu :pC (.int k i)=false:=(rfl)
@[go_sem] theorem bIn :pC (.bool b)=false:=(rfl)
@[go_sem] theorem bKv :pC (.str x)=false:=(rfl)
@[go_sem] theorem bM2 :pC (.fz xs)=false:=(rfl)
@[go_sem] theorem bM3 :pC (.cl xs)=false:=(rfl)
@[go_sem] theorem bKw :pC (.agg xs)=false:=(rfl)
@[go_sem] theorem bKx :pC (.tup xs)=false:=(rfl)
@[go_sem] theorem bM4 :pC (.fp xs m)=false:=(rfl)
@[go_sem] theorem bM5 :pC (.fn m xs ys)=false:=(rfl)
@[go_sem] theorem bIo :pC .nili=false:=(rfl)
@[go_sem] theorem bKy :pC (.ifc m v)=false:=(rfl)
end
@[go_sem] theorem aDh {α β:Type}{f:α->Option β}:cM f []=some []:=(rfl)
@[go_sem] theorem aA4 {α β:Type}{f:α->Option β}{x:α}{xs:List α}:cM f (x::xs)=(match f x with|some y=>(match cM f xs with|some ys=>some (y::ys)|none=>none)|none=>none):=(rfl)
@[go_sem] theorem bFo {cs:List Val}:iB true cs=some (.agg cs):=(rfl)
@[go_sem] theorem bFp :iB false [v]=some v:=(rfl)
attribute [go_sem] o og on ong
def zI (cs:List Val)(off:Nat):Option Val:=cs[off]?
@[go_sem] theorem bGv {cs:List Val}:zI (v::cs) 0=some v:=(rfl)
@[go_sem] theorem bGw {cs:List Val}{n:Nat}:zI (v::cs) (n+1)=zI cs n:=(rfl)
section
@[go_sem] theorem bM6 {x:Opd}:cO d g en get (.mv x)=some {v:=get x}:=(rfl)
def aNa (c a b:Val):Option Res:=match c with| .bool t=>some {v:=if t then a else b}|_=>none
@[go_sem] theorem bIp {a b:Opd}:cO d g en get (.pick c a b)=aNa (get c) (get a) (get b):=(rfl)
@[go_sem] theorem bKz {a b:Val}:aNa (.bool true) a b=some {v:=a}:=(rfl)
@[go_sem] theorem bK0 {a b:Val}:aNa (.bool false) a b=some {v:=b}:=(rfl)
@[go_sem] theorem bK1 {t a:Bool}:aNa (.bool t) (.bool a) (.bool b)=some {v:= .bool (if t then a else b)}:=by cases t<;>rfl
@[go_sem] theorem bGx :cO d g en get (.alloc z)=some {v:= .ptr ⟨0,d,g⟩ 0,ws:=[.ent ⟨0,d,g⟩ (some (.box z false))],bump:=true}:=(rfl)
def pD (d g m:Nat)(x:Val):Option Res:=if x.one=true/\ x.cells.length=m then some {v:= .ptr ⟨0,d,g⟩ 0,ws:=[.ent ⟨0,d,g⟩ (some (.box x.cells false))],bump:=true}else none
@[go_sem] theorem bK2 {x:Opd}:cO d g en get (.box m x)=pD d g m (get x):=(rfl)
@[go_sem] theorem bIq {cs:List Val}(h:cs.length=m):pD d g m (.agg cs)=some {v:= .ptr ⟨0,d,g⟩ 0,ws:=[.ent ⟨0,d,g⟩ (some (.box cs false))],bump:=true}:=by simp[pD,Val.one,Val.cells,h]
@[go_sem] theorem bIr {n:Int}:pD d g 1 (.int k n)=some {v:= .ptr ⟨0,d,g⟩ 0,ws:=[.ent ⟨0,d,g⟩ (some (.box [.int k n] false))],bump:=true}:=by simp[pD,Val.one,Val.cells]
@[go_sem] theorem bGy :pD d g 1 (.bool b)=some {v:= .ptr ⟨0,d,g⟩ 0,ws:=[.ent ⟨0,d,g⟩ (some (.box [.bool b] false))],bump:=true}:=by simp[pD,Val.one,Val.cells]
@[go_sem] theorem bIs {b:ByteArray}:pD d g 1 (.str b)=some {v:= .ptr ⟨0,d,g⟩ 0,ws:=[.ent ⟨0,d,g⟩ (some (.box [.str b] false))],bump:=true}:=by simp[pD,Val.one,Val.cells]
@[go_sem] theorem bK3 :pD d g 1 (.fz xs)=some {v:= .ptr ⟨0,d,g⟩ 0,ws:=[.ent ⟨0,d,g⟩ (some (.box [.fz xs] false))],bump:=true}:=by simp[pD,Val.one,Val.cells]
@[go_sem] theorem bK4 {i:Nat}:pD d g 1 (.fp xs i)=some {v:= .ptr ⟨0,d,g⟩ 0,ws:=[.ent ⟨0,d,g⟩ (some (.box [.fp xs i] false))],bump:=true}:=by simp[pD,Val.one,Val.cells]
@[go_sem] theorem bIt {k:Key}{i:Nat}:pD d g 1 (.ptr k i)=some {v:= .ptr ⟨0,d,g⟩ 0,ws:=[.ent ⟨0,d,g⟩ (some (.box [.ptr k i] false))],bump:=true}:=by simp[pD,Val.one,Val.cells]
@[go_sem] theorem bK5 {b:List Val}:pD d g 1 (.fn f a b)=some {v:= .ptr ⟨0,d,g⟩ 0,ws:=[.ent ⟨0,d,g⟩ (some (.box [.fn f a b] false))],bump:=true}:=by simp[pD,Val.one,Val.cells]
@[go_sem] theorem bGz {ps:List (Nat×Nat×Opd)}:cO d g en get (.build z ps)=(rH z (ps.map fun p=>(p.1,p.2.1,get p.2.2))).map fun cs=>{v:= .agg cs}:=(rfl)
@[go_sem] theorem bIu {agg:Bool}{a:Opd}:cO d g en get (.load agg m a)=(match pZ en (get a) m with|some (cs,rs)=>(iB agg cs).map fun v=>{v,rs}|none=>none):=(rfl)
@[go_sem] theorem bK6 {op:BinOp}{t:EqT}{x y:Opd}:cO d g en get (.bin op t x y)=(cZ op t (get x) (get y)).map fun v=>{v}:=(rfl)
def aX8 (x:Val):Option Res:=match x with| .bool b=>some {v:= .bool !b}|_=>none
def aX9 (x:Val):Option Res:=match x with| .int k a=>some {v:= .int k (k.wrap (0-a))}|_=>none
@[go_sem] theorem bK7 {x:Opd}:cO d g en get (.un .not x)=aX8 (get x):=by
 simp only[cO,eval,aX8];cases get x<;>rfl
@[go_sem] theorem bK8 {x:Opd}:cO d g en get (.un .neg x)=aX9 (get x):=by
 simp only[cO,eval,aX9];cases get x<;>rfl
@[go_sem] theorem bM7 :aX8 (.bool b)=some {v:= .bool !b}:=(rfl)
@[go_sem] theorem bM8 {a:Int}:aX9 (.int k a)=some {v:= .int k (k.wrap (0-a))}:=(rfl)
def aYa (k:IntKind)(x:Val):Option Res:=match x with| .int _ a=>some {v:= .int k (k.wrap a)}|_=>none
@[go_sem] theorem bIv {x:Opd}:cO d g en get (.wrap k x)=aYa k (get x):=(rfl)
@[go_sem] theorem bK9 {j:IntKind}{a:Int}:aYa k (.int j a)=some {v:= .int k (k.wrap a)}:=(rfl)
@[go_sem] theorem bG0 {x:Opd}:cO d g en get (.iface t x)=if(get x).one=true then some {v:= .ifc t (get x)}else none:=(rfl)
def aDi (t:Nat)(z:Val)(ok:Bool)(x:Val):Option Res:=match x with
 | .ifc t' v=>if t'=t then some {v:=if ok then .tup [v,.bool true]else v}else if ok then some {v:= .tup [z,.bool false]}else none
 | .nili=>if ok then some {v:= .tup [z,.bool false]}else none
 |_=>none
@[go_sem] theorem bFq {z:Val}{x:Opd}:cO d g en get (.assert t z ok x)=aDi t z ok (get x):=(rfl)
@[go_sem] theorem bEf {z:Val}:aDi t z true (.ifc t' v)=some {v:=if t'=t then .tup [v,.bool true]else .tup [z,.bool false]}:=by
 simp only[aDi];split<;>simp
@[go_sem] theorem bEg {z:Val}:aDi t z true .nili=some {v:= .tup [z,.bool false]}:=(rfl)
@[go_sem] theorem bIw {a b:List Opd}:cO d g en get (.mkfn f a b)=some {v:= .fn f (a.map get) (b.map get)}:=(rfl)
@[go_sem] theorem bG1 :cO d g en get .mkmap=some {v:= .mp ⟨0,d,g⟩,ws:=[.ent ⟨0,d,g⟩ (some (.map [] [] false))],bump:=true}:=(rfl)
def aF7 (t:EqT)(en:En)(x:Val):Option Res:=match t with
  | .map=>match x with
   | .mp key=>match en key with
    |some (.map ks _ _)=>some {v:= .int .i64 ks.length,rs:=[.val key]}
    |_=>none
   | .fm ks _=>some {v:= .int .i64 ks.length}
   | .nilm=>some {v:= .int .i64 0}
   |_=>none
  | .str=>match x with
   | .str s=>some {v:= .int .i64 s.size}
   |_=>none
  | .slice=>(rP x).map fun m=>{v:= .int .i64 m}
  | .func=>match x with
   | .cl xs=>some {v:= .int .i64 xs.length}
   |_=>none
  |_=>none
@[go_sem] theorem bLa {t:EqT}{x:Opd}:cO d g en get (.len t x)=aF7 t en (get x):=(rfl)
@[go_sem] theorem bM9 {x:Val}:aF7 .slice en x=(rP x).map fun(m:Nat)=>{v:= .int .i64 (m:Int)}:=by simp only[aF7];cases rP x<;>rfl
@[go_sem] theorem bIx :aF7 .str en (.str s)=some {v:= .int .i64 s.size}:=(rfl)
@[go_sem] theorem bIy :aF7 .func en (.cl xs)=some {v:= .int .i64 xs.length}:=(rfl)
@[go_sem] theorem bG2 :aF7 .map en .nilm=some {v:= .int .i64 0}:=(rfl)
@[go_sem] theorem bLb {ks:List Val}:aF7 .map en (.fm ks vs)=some {v:= .int .i64 ks.length}:=(rfl)
@[go_sem] theorem bG3 :rP (.fz xs)=some xs.length:=(rfl)
@[go_sem] theorem bG4 :rP (.cl xs)=some xs.length:=(rfl)
@[go_sem] theorem bG5 {k:Key}{o n:Nat}:rP (.bl k o n)=some n:=(rfl)
def bCr (i:Nat)(x:Val):Option Res:=match x with| .tup vs=>(vs[i]?).map fun v=>{v}|_=>none
@[go_sem] theorem bLc {i:Nat}{x:Opd}:cO d g en get (.ext i x)=bCr i (get x):=(rfl)
@[go_sem] theorem bIz {i:Nat}:bCr i (.tup vs)=(zI vs i).map fun v=>{v}:=(rfl)
def bA3 (off:Nat)(x:Val):Option Res:=match x with
  | .fp cs o=>some {v:= .fp cs (o+off)}
  | .ptr k o=>some {v:= .ptr k (o+off)}
  | .ep k i o=>some {v:= .ep k i (o+off)}
  |_=>none
@[go_sem] theorem bNa {x:Opd}:cO d g en get (.fa off x)=bA3 off (get x):=(rfl)
@[go_sem] theorem bNb {o:Nat}{cs:List Val}:bA3 off (.fp cs o)=some {v:= .fp cs (o+off)}:=(rfl)
@[go_sem] theorem bLd {o:Nat}{k:Key}:bA3 off (.ptr k o)=some {v:= .ptr k (o+off)}:=(rfl)
@[go_sem] theorem bNc {o i:Nat}{k:Key}:bA3 off (.ep k i o)=some {v:= .ep k i (o+off)}:=(rfl)
def oP (size:Nat)(en:En)(x i:Val):Option Res:=match i with
  | .int _ j=>
   match x with
   | .fz xs| .cl xs=>if 0<=j then match xs[j.toNat]? with
     |some y=>if y.cells.length=size then some {v:= .fp y.cells 0}else none
     |none=>none else none
   | .bl k off len=>match en k with
    |some (.blk sz _ _)=>if 0<=j/\ j<len/\ sz=size then some {v:= .ep k (off+j.toNat) 0,rs:=[.val k]}else none
    |_=>none
   |_=>none
  |_=>none
@[go_sem] theorem bNd {x i:Opd}:cO d g en get (.ia size x i)=oP size en (get x) (get i):=by
 simp only[cO,eval,oP];cases get i<;>rfl
theorem bG6 {y:Val}(h:xs[j]?=some y)(hs:y.cells.length=size):oP size en (.fz xs) (.int k j)=some {v:= .fp y.cells 0}:=by
 simp[oP,h,hs]
@[go_sem] theorem aSo {α:Type}{f:α->Val}{l:List α}(h:j<l.length)(hs:((f l[j]).cells.length==size)=true):oP size en (.fz (l.map f)) (.int k j)=some {v:= .fp (f l[j]).cells 0}:=
 bG6 (by simp[h]) (by simpa using hs)
@[go_sem] theorem bFr {len:Nat}{ps:List (Nat×Opd)}:cO d g en get (.bslice len size z ps)=
  if len*size<=16777216 then
   match cM (fun p=>match snapD 8 en (get p.2)with|some r=>some ((p.1,r.1.wk1),r.2)|none=>none) ps with
   |some ps=>match dM (List.replicate len (iK size z false)) size (ps.map (·.1))with
    |some xs=>some {v:= .cl xs,ws:=(ps.flatMap (·.2)).map .frz,rs:=(ps.flatMap (·.2)).map .val}
    |none=>none
   |none=>none
  else none:=(rfl)
@[go_sem] theorem bEh {len:Nat}{ps:List (Nat×Opd)}:cO d g en get (.bsliceO len size z ps)=
  if len*size<=16777216/\ ps.all (fun p=>(get p.2).flat1)=true then
   match dM (List.replicate len (iK size z false)) size (ps.map fun p=>(p.1,get p.2))with
   |some xs=>some {v:= .bl ⟨0,d,g⟩ 0 len,ws:=[.ent ⟨0,d,g⟩ (some (.blk size xs false))],bump:=true}
   |none=>none
  else none:=(rfl)
def opZ (d g size:Nat)(z:List Val)(x y:Val):Option Res:=match x,y with
  | .cl [],.int .i64 m=>if 0<m/\ m<=16777216 then
    some {v:= .bl ⟨0,d,g⟩ 0 m.toNat,ws:=[.ent ⟨0,d,g⟩ (some (.blk size (List.replicate m.toNat (iK size z false)) false))],bump:=true}else none
  |_,_=>none
@[go_sem] theorem bEi {x y:Opd}:cO d g en get (.appendZ size z x y)=opZ d g size z (get x) (get y):=(rfl)
def zJ (mx:Bool)(xs:List Val):Option Res:=match xs with
  |[.int j a,.int k b]=>if j=k then some {v:= .int j (if mx then(if b>a then b else a)else(if b<a then b else a))}else none
  |_=>none
@[go_sem] theorem bFs {mx:Bool}{xs:List Opd}:cO d g en get (.minmax mx xs)=zJ mx (xs.map get):=(rfl)
@[go_sem] theorem bNe {a b:Int}:zJ true [.int k a,.int k b]=some {v:= .int k (max a b)}:=by
 simp only[zJ,if_true,bN7,Res.mk.injEq,Val.int.injEq,true_and,and_true];omega
@[go_sem] theorem bNf {a b:Int}:zJ false [.int k a,.int k b]=some {v:= .int k (min a b)}:=by
 simp only[zJ,if_true,bOa,if_false,bN7,Res.mk.injEq,Val.int.injEq,true_and,and_true];omega
def aDj (x:Val):Option Res:=match x with
  | .fp cs off=>some {v:= .fp cs off}
  | .ptr k off=>some {v:= .ptr k off}
  | .ep k i off=>some {v:= .ep k i off}
  | .fn f a b=>some {v:= .fn f a b}
  | .ifc t v=>some {v:= .ifc t v}
  |_=>none
@[go_sem] theorem bG7 {x:Opd}:cO d g en get (.nilck x)=aDj (get x):=(rfl)
@[go_sem] theorem bG8 {cs:List Val}{o:Nat}:aDj (.fp cs o)=some {v:= .fp cs o}:=(rfl)
@[go_sem] theorem bFt {k:Key}{o:Nat}:aDj (.ptr k o)=some {v:= .ptr k o}:=(rfl)
@[go_sem] theorem bG9 {b:List Val}:aDj (.fn f a b)=some {v:= .fn f a b}:=(rfl)
@[go_sem] theorem bFu :aDj (.ifc t v)=some {v:= .ifc t v}:=(rfl)
end
@[go_sem] theorem bFv :dM xs size []=some xs:=(rfl)
@[go_sem] theorem bEj {i:Nat}{iT:List (Nat×Val)}(h1:v.one=true)(h2:v.cells.length=size)(h3:i<xs.length):dM xs size ((i,v)::iT)=dM (xs.set i v) size iT:=by
 simp only[dM,h1,h2,h3,and_self,if_true]
@[go_sem] theorem bNg {z:Val}:List.replicate 0 z=[]:=(rfl)
@[go_sem] theorem bNh {z:Val}:List.replicate 1 z=[z]:=(rfl)
@[go_sem] theorem bNi {z:Val}:List.replicate 2 z=[z,z]:=(rfl)
@[go_sem] theorem bNj {z:Val}:List.replicate 3 z=[z,z,z]:=(rfl)
@[go_sem] theorem bNk {z:Val}:List.replicate 4 z=[z,z,z,z]:=(rfl)
@[go_sem] theorem bNl {z:Val}:List.replicate 5 z=[z,z,z,z,z]:=(rfl)
@[go_sem] theorem bHa {cs:List Val}:rH cs []=some cs:=(rfl)
@[go_sem] theorem bFw {cs:List Val}{iT:List (Nat×Nat×Val)}(h1:v.one=true)(h2:v.cells.length=size)(h3:off+size<=cs.length):rH cs ((off,size,v)::iT)=rH (setCells cs off v.cells) iT:=by
 simp only[rH,h1,h2,h3,and_self,if_true]
@[go_sem] theorem bI0 {cs:List Val}:setCells cs off []=cs:=(rfl)
@[go_sem] theorem bHb {cs:List Val}:setCells cs off (v::vs)=setCells (cs.set off v) (off+1) vs:=(rfl)
attribute [go_sem] bP4 bP5
@[go_sem] theorem bLe {j:Int}:oP size en (.cl xs) (.int k j)=if 0<=j then(match zI xs j.toNat with|some y=>if y.cells.length=size then some {v:= .fp y.cells 0}else none|none=>none)else none:=(rfl)
section
variable {a b:Int}
@[go_sem] theorem bI1 :cZ .add .num (.int k a) (.int k b)=some (.int k (k.wrap (a+b))):=by simp[cZ,sO]
@[go_sem] theorem bI2 :cZ .sub .num (.int k a) (.int k b)=some (.int k (k.wrap (a-b))):=by simp[cZ,sO]
@[go_sem] theorem bI3 :cZ .mul .num (.int k a) (.int k b)=some (.int k (k.wrap (a*b))):=by simp[cZ,sO]
@[go_sem] theorem bI4 :cZ .quo .num (.int k a) (.int k b)=if b=0 then none else some (.int k (k.wrap (a.tdiv b))):=by simp[cZ,sO]
@[go_sem] theorem bI5 :cZ .rem .num (.int k a) (.int k b)=if b=0 then none else some (.int k (a.tmod b)):=by simp[cZ,sO]
@[go_sem] theorem bI6 :cZ .lss .num (.int k a) (.int k b)=some (.bool (decide (a<b))):=by simp[cZ,sO]
@[go_sem] theorem bI7 :cZ .leq .num (.int k a) (.int k b)=some (.bool (decide (a<=b))):=by simp[cZ,sO]
@[go_sem] theorem bI8 :cZ .gtr .num (.int k a) (.int k b)=some (.bool (decide (b<a))):=by simp[cZ,sO]
@[go_sem] theorem bI9 :cZ .geq .num (.int k a) (.int k b)=some (.bool (decide (b<=a))):=by simp[cZ,sO]
@[go_sem] theorem bJa :cZ .eql .num (.int k a) (.int k b)=some (.bool (decide (a=b))):=by
 simp only[cZ,oQ,if_true,bO0];congr 2
@[go_sem] theorem bJb :cZ .neq .num (.int k a) (.int k b)=some (.bool (!decide (a=b))):=by
 simp only[cZ,oQ,if_true,bO0];congr 3
@[go_sem] theorem bJc {x y:Bool}:cZ .eql .bool (.bool x) (.bool y)=some (.bool (x==y)):=(rfl)
@[go_sem] theorem bJd {x y:Bool}:cZ .neq .bool (.bool x) (.bool y)=some (.bool (!(x==y))):=(rfl)
@[go_sem] theorem bJe {x y:ByteArray}:cZ .eql .str (.str x) (.str y)=some (.bool (x.toList==y.toList)):=(rfl)
@[go_sem] theorem bJf {x y:ByteArray}:cZ .neq .str (.str x) (.str y)=some (.bool (!(x.toList==y.toList))):=(rfl)
end
@[go_sem] theorem fF :W.applyAll en []=en:=(rfl)
@[go_sem] theorem jS {w:W}:W.applyAll en (w::ws)=W.applyAll (w.apply en) ws:=(rfl)
@[go_sem] theorem wE {k:Key}:(W.ent k e).apply en=en.set k e:=(rfl)
theorem bHc (cs:List Val)(off:Nat):(if off+1<=cs.length then some ((cs.drop off).take 1)else none)=(cs[off]?).map fun v=>[v]:=by
 by_cases h:off<cs.length
 ·rw[if_pos (by omega),bPh h,bO9 h];rfl
 ·rw[if_neg (by omega),List.getElem?_eq_none (by omega)];rfl
theorem bHd (cs:List Val)(off:Nat)(rs:List R):(if off+1<=cs.length then some ((cs.drop off).take 1,rs)else none)=(zI cs off).map fun v=>([v],rs):=by
 have:=bHc cs off;unfold zI
 by_cases h:off+1<=cs.length
 ·rw[if_pos h]at this⊢;cases hc:cs[off]? with
  |none=>rw[hc]at this;cases this
  |some v=>rw[hc]at this;simp only[Option.map,bN7]at this⊢;rw[this]
 ·rw[if_neg h]at this⊢;cases hc:cs[off]? with
  |none=>rfl
  |some v=>rw[hc]at this;cases this
@[go_sem] theorem bHe {cs:List Val}:pZ en (.fp cs off) 1=(zI cs off).map fun v=>([v],[]):=bHd cs off []
@[go_sem] theorem bHf {k:Key}{n:Nat}:pZ en (.ptr k off) n=(match en k with|some (.box cs _)=>if off+n<=cs.length then some ((cs.drop off).take n,[.cells k off n])else none|_=>none):=(rfl)
@[go_sem] theorem bJg {cs:List Val}{n:Nat}:pZ en (.fp cs off) n=if off+n<=cs.length then some ((cs.drop off).take n,[])else none:=(rfl)
@[go_sem] theorem bA4 {α β:Type}{f:α->β}{x:α}:(some x).map f=some (f x):=(rfl)
@[go_sem] theorem bA5 {β:Type}{f:α->β}:(none:Option α).map f=none:=(rfl)
attribute [go_sem] bQf List.drop_succ_cons bOm bOp bOh bOo List.take_nil List.drop_nil
section
variable {R:Ex->St->Prop}
@[congr] theorem bHg {c:bA}:Wp L c st R=Wp L c st R:=(rfl)
@[go_sem] theorem bHh {c:bA}:Wp L c (start args) R=Wp L c ⟨fun i=>args.getD i (.tup []),fun _=>none,fun _ _=>0⟩ R:=(rfl)
@[go_sem] theorem bJh :Wp L .skip st R=R .normal st:=(rfl)
@[go_sem] theorem bLf :Wp L (.ops l) st R=iM L l st (R .normal):=(rfl)
@[go_sem] theorem bJi :Wp L (.draw l []) st R=iM L l st (R .normal):=by simp[Wp]
theorem qW {a b:bA}:Wp L (.seq a b) st R=Wp L a st fun e st'=>match e with
  | .normal=>Wp L b st' R
  | .exit i=>R (.exit i) st'
  | .ret=>R .ret st'
  | .panic v=>R (.panic v) st':=(rfl)
def aIr (v:Val)(a b:Prop):Prop:=match v with| .bool t=>if t=true then a else b|_=>False
@[go_sem] theorem bJj {x:Opd}{a b:bA}:Wp L (.cond x a b) ⟨fr,en,cnt⟩ R=aIr (St.get fr x) (Wp L a ⟨fr,en,cnt⟩ R) (Wp L b ⟨fr,en,cnt⟩ R):=(rfl)
@[congr] theorem bCs {a b:Prop}(h:v=v'):aIr v a b=aIr v' a b:=by rw[h]
@[go_sem] theorem bJk {a b:Prop}:aIr (.bool true) a b=a:=(rfl)
@[go_sem] theorem bJl {a b:Prop}:aIr (.bool false) a b=b:=(rfl)
theorem aX {t:Bool}{a b:Prop}(h:t=true->a)(k:t=false->b):aIr (.bool t) a b:=by cases t<;>first|exact h rfl|exact k rfl
@[go_sem] theorem bHi {b:bA}:Wp L (.block id b) st R=Wp L b st fun e st'=>match e with
  | .exit id'=>if id'=id then R .normal st' else R (.exit id') st'
  | .normal=>R .normal st'
  | .ret=>R .ret st'
  | .panic v=>R (.panic v) st':=(rfl)
@[go_sem] theorem bLg :Ex.calm .normal=true:=(rfl)
@[go_sem] theorem bLh :Ex.calm .ret=true:=(rfl)
@[go_sem] theorem bLi :Ex.calm (.exit id)=true:=(rfl)
@[go_sem] theorem bJm :Wp L (.exit id) st R=R (.exit id) st:=(rfl)
@[go_sem] theorem bLj :Wp L .ret st R=R .ret st:=(rfl)
end
attribute [go_sem] Ex.ends bA0 oR yS aTs and_true bQ3 List.getD_cons_succ List.getD_nil bO4 bOq bPa bPb bQj bQm bP7
 not_false_eq_true not_true_eq_false ne_eq bO0 bQg List.all_nil true_and and_true bQa bO3 bPp bOx if_true if_false bOa bOn bOs bO1 bPo
section
variable {i:Int}{x:ByteArray}
@[go_sem] theorem bLk :Val.wk (.int k i)= .int k i:=(rfl)
@[go_sem] theorem bJn :Val.wk (.bool b)= .bool b:=(rfl)
@[go_sem] theorem bLl :Val.wk (.str x)= .str x:=(rfl)
@[go_sem] theorem bNm :Val.wk (.fz xs)= .fz xs:=(rfl)
@[go_sem] theorem bNn :Val.wk (.cl xs)= .fz xs:=(rfl)
@[go_sem] theorem bNo :Val.wk (.fp xs m)= .fp xs m:=(rfl)
@[go_sem] theorem bNp :Val.wk (.fn m xs ys)= .fn m xs ys:=(rfl)
@[go_sem] theorem bJo :Val.wk .nili= .nili:=(rfl)
@[go_sem] theorem bJp :Val.wk .nilp= .nilp:=(rfl)
@[go_sem] theorem bLm :Val.wk (.ifc m v)= .ifc m v:=(rfl)
@[go_sem] theorem bNq :Val.wk (.fm xs ys)= .fm xs ys:=(rfl)
@[go_sem] theorem bLn :Val.wk (.agg xs)= .agg (xs.map Val.wk0):=(rfl)
@[go_sem] theorem bLo :Val.wk (.tup xs)= .tup (xs.map Val.wk1):=(rfl)
@[go_sem] theorem bJq :Val.wk1 (.int k i)= .int k i:=(rfl)
@[go_sem] theorem bHj :Val.wk1 (.bool b)= .bool b:=(rfl)
@[go_sem] theorem bJr :Val.wk1 (.str x)= .str x:=(rfl)
@[go_sem] theorem bLp :Val.wk1 (.fz xs)= .fz xs:=(rfl)
@[go_sem] theorem bLq :Val.wk1 (.cl xs)= .fz xs:=(rfl)
@[go_sem] theorem bLr :Val.wk1 (.fp xs m)= .fp xs m:=(rfl)
@[go_sem] theorem bLs :Val.wk1 (.fn m xs ys)= .fn m xs ys:=(rfl)
@[go_sem] theorem bHk :Val.wk1 .nili= .nili:=(rfl)
@[go_sem] theorem bHl :Val.wk1 .nilp= .nilp:=(rfl)
@[go_sem] theorem bHm :Val.wk1 .nilm= .nilm:=(rfl)
@[go_sem] theorem bJs :Val.wk1 (.ifc m v)= .ifc m v:=(rfl)
@[go_sem] theorem bLt :Val.wk1 (.fm xs ys)= .fm xs ys:=(rfl)
@[go_sem] theorem bJt :Val.wk1 (.agg xs)= .agg (xs.map Val.wk0):=(rfl)
@[go_sem] theorem bJu :Val.wk0 (.int k i)= .int k i:=(rfl)
@[go_sem] theorem bHn :Val.wk0 (.bool b)= .bool b:=(rfl)
@[go_sem] theorem bJv :Val.wk0 (.str x)= .str x:=(rfl)
@[go_sem] theorem bLu :Val.wk0 (.fz xs)= .fz xs:=(rfl)
@[go_sem] theorem bLv :Val.wk0 (.cl xs)= .fz xs:=(rfl)
@[go_sem] theorem bLw :Val.wk0 (.fp xs m)= .fp xs m:=(rfl)
@[go_sem] theorem bLx :Val.wk0 (.fn m xs ys)= .fn m xs ys:=(rfl)
@[go_sem] theorem bHo :Val.wk0 .nili= .nili:=(rfl)
@[go_sem] theorem bHp :Val.wk0 .nilp= .nilp:=(rfl)
@[go_sem] theorem bJw :Val.wk0 (.ifc m v)= .ifc m v:=(rfl)
@[go_sem] theorem bHq :Val.flat (.int k i)=true:=(rfl)
@[go_sem] theorem bFx :Val.flat (.bool b)=true:=(rfl)
@[go_sem] theorem bHr :Val.flat (.str x)=true:=(rfl)
@[go_sem] theorem bFy :Val.cells (.agg xs)=xs:=(rfl)
@[go_sem] theorem bFz :Val.cells (.int k i)=[.int k i]:=(rfl)
@[go_sem] theorem bEk :Val.cells (.bool b)=[.bool b]:=(rfl)
@[go_sem] theorem bF0 :Val.cells (.str x)=[.str x]:=(rfl)
@[go_sem] theorem bHs :Val.cells (.fz xs)=[.fz xs]:=(rfl)
@[go_sem] theorem bJx :Val.one (.int k i)=true:=(rfl)
@[go_sem] theorem bHt :Val.one (.bool b)=true:=(rfl)
@[go_sem] theorem bJy :Val.one (.str x)=true:=(rfl)
@[go_sem] theorem bLy :Val.one (.fz xs)=true:=(rfl)
@[go_sem] theorem pE :Val.one (.cl xs)=true:=(rfl)
@[go_sem] theorem bJz :Val.one (.agg xs)=true:=(rfl)
end
section
variable {n :Nat}
@[go_sem] theorem bJ0 :snapD (n+1) en (.bool b)=some (.bool b,[]):=(rfl)
@[go_sem] theorem bLz {i:Int}:snapD (n+1) en (.int k i)=some (.int k i,[]):=(rfl)
@[go_sem] theorem bL0 :snapD (n+1) en (.str s)=some (.str s,[]):=(rfl)
@[go_sem] theorem bJ1 :snapD (n+1) en .nilp=some (.nilp,[]):=(rfl)
@[go_sem] theorem bJ2 :snapD (n+1) en .nilm=some (.nilm,[]):=(rfl)
@[go_sem] theorem bJ3 :snapD (n+1) en .nilf=some (.nilf,[]):=(rfl)
@[go_sem] theorem bJ4 :snapD (n+1) en .nili=some (.nili,[]):=(rfl)
@[go_sem] theorem bNr :snapD (n+1) en (.fz xs)=some (.fz xs,[]):=(rfl)
@[go_sem] theorem bNs :snapD (n+1) en (.cl xs)=some (.cl xs,[]):=(rfl)
@[go_sem] theorem bNt :snapD (n+1) en (.fp xs off)=some (.fp xs off,[]):=(rfl)
@[go_sem] theorem bNu :snapD (n+1) en (.fm xs ys)=some (.fm xs ys,[]):=(rfl)
@[go_sem] theorem bL1 {cs:List Val}:snapD (n+1) en (.agg cs)=(match cM (snapD n en) cs with|some rs=>some (.agg (rs.map (·.1)),rs.flatMap (·.2))|none=>none):=(rfl)
@[go_sem] theorem bL2 {cs:List Val}:snapD (n+1) en (.tup cs)=(match cM (snapD n en) cs with|some rs=>some (.tup (rs.map (·.1)),rs.flatMap (·.2))|none=>none):=(rfl)
@[go_sem] theorem bL3 {k:Key}:snapD (n+1) en (.ptr k off)=(match en k with|some (.box cs _)=>(match cM (snapD n en) cs with|some rs=>some (.fp (rs.map (·.1)) off,k::rs.flatMap (·.2))|none=>none)|_=>none):=(rfl)
@[go_sem] theorem bNv {k:Key}{len:Nat}:snapD (n+1) en (.bl k off len)=(match en k with|some (.blk _ xs _)=>if k.deep=true then none else if off+len<=xs.length then some (.fz ((xs.drop off).take len),[k])else none|_=>none):=(rfl)
@[go_sem] theorem bJ5 {n:Nat}(h: ¬n=3):Key.deep ⟨n,t,g⟩=false:=by simp[Key.deep,h]
@[go_sem] theorem aIs :Key.deep ⟨0,t,g⟩=false:=(rfl)
end
theorem bH {L:bG}{b:bA}{Q:Ex->St->Prop}(n:Nat)(I:Nat->St->Prop)(k0:Nat)(hle:k0<=n)(h0:I k0 st)
  (hr: ∀k st,k<=n->I k st->Wp L b st fun e st'=>match e with
   | .normal=>k<n/\ I (k+1) st'
   | .exit i=>Q (.exit i) st'
   | .ret=>Q .ret st'
   | .panic v=>Q (.panic v) st'):Wp L (.loop b) st Q:=
 wp_loop (fun k st=>k<=n/\ I k st) (fun k=>n-k) k0 ⟨hle,h0⟩ fun k st ⟨hk,hI⟩=>wp_mono b (hr k st hk hI) fun e st' h=>by
  cases e with
  |normal=>exact⟨k+1,⟨by omega,h.2⟩,by omega⟩
  |exit i=>exact h
  |ret=>exact h
  |panic v=>exact h
theorem aY {n:Int}(h: -9223372036854775808<=n/\ n<=9223372036854775807):IntKind.i64.wrap n=n:=IntWalk.i64_in n h
def Few (n:Nat):Prop:=n<=9223372036854775807
@[go_sem] theorem aQ {k n:Nat}(h:k<n)(hn:Few n):IntKind.i64.wrap ((k:Int)+1)=((k+1:Nat):Int):=by
 unfold Few at hn;rw[aY (by omega)];rfl
attribute [go_sem] Int.ofNat_lt Int.ofNat_le Int.ofNat_inj decide_true decide_false bOc
@[go_sem] theorem eq2 {a b c d:Int}:cZ .eql (.agg [.num,.num]) (.agg [.int k a,.int k b]) (.agg [.int k c,.int k d])=some (.bool (decide (a=c)&&decide (b=d))):=by
 simp only[cZ,oQ,bOh,bOo,and_self,if_true,jG,yR];have e:(a==c)=decide (a=c):=by by_cases h:a=c<;>simp[h]
 have e':(b==d)=decide (b=d):=by by_cases h:b=d<;>simp[h]
 rw[e,e']
 by_cases h:a=c<;>by_cases h':b=d<;>simp[h,h']
@[go_sem] theorem ne2 {a b c d:Int}:cZ .neq (.agg [.num,.num]) (.agg [.int k a,.int k b]) (.agg [.int k c,.int k d])=some (.bool (!(decide (a=c)&&decide (b=d)))):=by
 simp only[cZ,oQ,bOh,bOo,and_self,if_true,jG,yR];have e:(a==c)=decide (a=c):=by by_cases h:a=c<;>simp[h]
 have e':(b==d)=decide (b=d):=by by_cases h:b=d<;>simp[h]
 rw[e,e']
 by_cases h:a=c<;>by_cases h':b=d<;>simp[h,h']
end
def aPr (l:List Int):Val:= .fz (l.map (.int .i64))
structure aE where
 kind:Int
 n:Int
 deriving DecidableEq,Inhabited
def aE.enc (v:aE):Val:= .agg [.int .i64 v.kind,.int .i64 v.n]
structure aA where
 node:Int
 env:List aE
 vals:List aE
 deriving DecidableEq,Inhabited
def aA.enc (f:aA):Val:= .agg [.int .i64 f.node,.fz (f.env.map aE.enc),.fz (f.vals.map aE.enc)]
structure aR where
 form:Int
 n:Int
 vals:List aE
 frames:List aA
 deriving DecidableEq,Inhabited
def aR.enc (o:aR):Val:= .agg [.int .i64 o.form,.int .i64 o.n,.fz (o.vals.map aE.enc),.fz (o.frames.map aA.enc)]
structure bJ where
 port:Int
 n:Int
 deriving DecidableEq,Inhabited
def bJ.enc (o:bJ):Val:= .agg [.int .i64 o.port,.int .i64 o.n]
structure aB where
 objs:List aR
 tasks:List Int
 outs:List bJ
 ins:List Int
 used:Int
 deriving DecidableEq,Inhabited
def aB.cells (w:aB):List Val:=[.fz (w.objs.map aR.enc),aPr w.tasks,.fz (w.outs.map bJ.enc),aPr w.ins,.int .i64 w.used]
structure aIt where
 world:aB
 ages:List Int
 marks:List Int
 cycle:Int
 deriving DecidableEq,Inhabited
def aIt.cells (s:aIt):List Val:=s.world.cells++[aPr s.ages,aPr s.marks,.int .i64 s.cycle]
structure cD where
 name:ByteArray
 args:Int
 deriving DecidableEq,Inhabited
def cD.enc (c:cD):Val:= .agg [.str c.name,.int .i64 c.args]
inductive Pat where
 |mk (form n:Int) (text:ByteArray) (parts:List Pat)
 deriving Inhabited
mutual
def Pat.enc :Pat->Val
 | .mk f n t ps=> .agg [.int .i64 f,.int .i64 n,.str t,.fz (Pat.encL ps)]
def Pat.encL :List Pat->List Val
 |[]=>[]
 |p::ps=>p.enc::Pat.encL ps
end
theorem Pat.encL_map : ∀ps:List Pat,Pat.encL ps=ps.map Pat.enc
 |[]=>rfl
 |p::ps=>by rw[Pat.encL,Pat.encL_map ps];rfl
def Pat.form :Pat->Int| .mk f _ _ _=>f
def Pat.n :Pat->Int| .mk _ n _ _=>n
def Pat.text :Pat->ByteArray| .mk _ _ t _=>t
def Pat.parts :Pat->List Pat| .mk _ _ _ l=>l
theorem Pat.enc_eq (p:Pat):p.enc= .agg [.int .i64 p.form,.int .i64 p.n,.str p.text,.fz (p.parts.map Pat.enc)]:=by
 cases p;simp only[Pat.enc,Pat.encL_map,Pat.form,Pat.n,Pat.text,Pat.parts]
structure aL where
 op:Int
 n:Int
 kids:List Int
 pats:List Pat
 deriving Inhabited
def aL.enc (o:aL):Val:= .agg [.int .i64 o.op,.int .i64 o.n,aPr o.kids,.fz (o.pats.map Pat.enc)]
structure aI where
 nodes:List aL
 funs:List Int
 main:Int
 cons:List cD
 deriving Inhabited
def aI.cells (p:aI):List Val:=[.fz (p.nodes.map aL.enc),aPr p.funs,.int .i64 p.main,.fz (p.cons.map cD.enc)]
attribute [go_sem] aE.enc aA.enc aR.enc bJ.enc cD.enc aL.enc Pat.enc_eq aB.cells aI.cells aIt.cells aPr
@[match_pattern] abbrev Val.i (n:Int):Val:= .int .i64 n
abbrev Val.is (l:List Int):Val:= .fz (l.map (.int .i64))
abbrev aB.cs (w:aB):List Val:=[.fz (w.objs.map aR.enc),.is w.tasks,.fz (w.outs.map bJ.enc),.is w.ins,.int .i64 w.used]
abbrev aI.cs (p:aI):List Val:=[.fz (p.nodes.map aL.enc),.is p.funs,.int .i64 p.main,.fz (p.cons.map cD.enc)]
def kX (L:bG):List aM->St->(St->Prop)->Prop
 |[],st,Q=>Q st
 |o::l,st,Q=>nH L st o fun st' r=>r.ws=[]/\ r.bump=false/\ r.mem=none/\ kX L l st' Q
theorem kY {L:bG}{o:aM}{K K':St->Res->Prop}(h:nH L st o K)(hk: ∀s r,K s r->K' s r):nH L st o K':=by
 have wop: ∀{d g:Nat} {en:En} {get:Opd->Val} {op:LOp} {K K':Res->Prop},WOp L d g en get op K->(∀r,K r->K' r)->WOp L d g en get op K':=by
  intro d g en get op K K' h hk;have oth:(match cO d g en get op with|some r=>K r|none=>False)->(match cO d g en get op with|some r=>K' r|none=>False):=by
   intro h;split<;>rename_i hr<;>simp only[hr]at h;exact hk _ h
  cases op with
  |call f args=>
   simp only[WOp]at h⊢
   split at h
   ·split at h
    ·obtain⟨r,h1,h2⟩:=h;exact⟨r,h1,hk _ h2⟩
    ·exact h.elim
   ·exact h.elim
  |_=>exact oth h
 unfold nH at h⊢;split
 ·rename_i hw;simp only[hw]at h;split
  ·rename_i f args hop;simp only[hop]at h;exact h.mono fun _ _ _=>hk _ _
  ·rename_i op hne;have h':WOp L (o.dst.getD 0) (st.cnt 0 (o.dst.getD 0)) st.en (St.get st.fr) o.op fun r=>(r.bump&&o.dst.isNone)=false/\
     K ⟨gH st.fr o.dst r.v,W.applyAll st.en r.ws,if r.bump then aC st.cnt 0 (o.dst.getD 0) (st.cnt 0 (o.dst.getD 0)+1)else st.cnt⟩ r:=by
    split at h
    ·rename_i f a hx;exact absurd hx (hne f a)
    ·exact h
   exact wop h' fun r ⟨h1,h2⟩=>⟨h1,hk _ _ h2⟩
 ·rename_i hw;simp only[hw]at h;exact hk _ _ h
 ·rename_i hw;simp only[hw]at h
def aYb (rs:List Res):Prop:= ∀r∈rs,r.ws=[]/\ r.bump=false/\ r.mem=none
theorem aLo {L:bG}: ∀(l:List aM) {st:St} {Q:St->Prop},kX L l st Q->qQ L l st fun st' rs=>aYb rs/\ rs.length=l.length/\ Q st'
 |[],st,Q,h=>⟨fun _ hr=>by simp at hr,rfl,h⟩
 |o::l,st,Q,h=>by
  refine kY h fun s r ⟨h1,h2,h3,h4⟩=>?_
  have rec_: ∀(l:List aM) {st:St} {Q R:St->List Res->Prop},qQ L l st Q->(∀s rs,Q s rs->R s rs)->qQ L l st R:=by
   intro l
   induction l with
   |nil=>intro st Q R h k;exact k _ _ h
   |cons o l ih=>intro st Q R h k;exact kY h fun s r hs=>ih hs fun s rs hq=>k _ _ hq
  refine rec_ l (aLo l h4) fun s rs ⟨k1,k2,k3⟩=>⟨fun x hx=>?_,by simp[k2],k3⟩
  rcases bO8.1 hx with rfl|hx
  ·exact⟨h1,h2,h3⟩
  ·exact k1 x hx
theorem zK {L:bG}{pairs:List (Nat×Nat)}{R:Ex->St->Prop}(hp:pairs.all (fun p=>decide (p.1<l.length)&&decide (p.2<l.length))=true)
  (h:kX L l st (R .normal)):Wp L (.draw l pairs) st R:=by
 simp only[Wp];have hr:=aLo l h;split
 ·rename_i hpp;have: ∀(l:List aM) {st:St} {Q:St->List Res->Prop} {R:St->Prop},qQ L l st Q->(∀s rs,Q s rs->R s)->iM L l st R:=by
   intro l
   induction l with
   |nil=>intro st Q R h k;exact k _ _ h
   |cons o l ih=>intro st Q R h k;exact kY h fun s r hs=>ih hs fun s rs hq=>k _ _ hq
  exact this l hr fun s rs h=>h.2.2
 ·have rec_: ∀(l:List aM) {st:St} {Q R:St->List Res->Prop},qQ L l st Q->(∀s rs,Q s rs->R s rs)->qQ L l st R:=by
   intro l
   induction l with
   |nil=>intro st Q R h k;exact k _ _ h
   |cons o l ih=>intro st Q R h k;exact kY h fun s r hs=>ih hs fun s rs hq=>k _ _ hq
  refine rec_ l hr fun s rs ⟨h1,h2,h3⟩=>⟨?_,h3⟩
  unfold dG
  refine bOe.2 fun p hpm=>?_
  have:=bOe.1 hp p hpm;simp only[bN8,bRt]at this;rw[bPh (by omega),bPh (by omega)]
  obtain⟨a1,a2,a3⟩:=h1 rs[p.1] (bOg _);obtain⟨b1,b2,b3⟩:=h1 rs[p.2] (bOg _);simp[aCv,a1,a3,b1,b3]
section
variable {L :bG}{Q:St->Prop}
@[congr] theorem bA6 :kX L l st Q=kX L l st Q:=(rfl)
@[go_sem] theorem bL4 (st:St):kX L [] st Q=Q st:=(rfl)
def aF8 (L:bG)(l:List aM)(dst:Option Nat)(fr:Nat->Val)(en:En)(cnt:Nat->Nat->Nat)(Q:St->Prop):Option Res->Prop
 |some r=>(r.bump&&dst.isNone)=false/\ r.ws=[]/\ r.bump=false/\ r.mem=none/\ kX L l ⟨gH fr dst r.v,W.applyAll en r.ws,if r.bump then aC cnt 0 (dst.getD 0) (cnt 0 (dst.getD 0)+1)else cnt⟩ Q
 |none=>False
@[congr] theorem bCt {r:Option Res}(h:r=r'):aF8 L l dst fr en cnt Q r=aF8 L l dst fr en cnt Q r':=by rw[h]
@[go_sem] theorem bEl {rs:List R}:
  aF8 L l dst fr en cnt Q (some ⟨v,[],rs,false,none,u⟩)=kX L l ⟨gH fr dst v,en,cnt⟩ Q:=by simp[aF8,W.applyAll]
@[go_sem] theorem bEm :aF8 L l dst fr en cnt Q none=False:=(rfl)
@[go_sem] theorem bNw (h:op.plain=true):kX L (⟨dst,op,none⟩::l) ⟨fr,en,cnt⟩ Q=aF8 L l dst fr en cnt Q (cO (dst.getD 0) (cnt 0 (dst.getD 0)) en (St.get fr) op):=by
 cases op<;>first|(simp[LOp.plain]at h;done)|rfl|(simp only[kX,nH,wanted,WOp,aF8];rfl)
@[go_sem] theorem aYc :kX L (⟨dst,op,some (t,b)⟩::l) ⟨fr,en,cnt⟩ Q=
  pB (fr t) b (kX L (⟨dst,op,none⟩::l) ⟨fr,en,cnt⟩ Q) (kX L l ⟨gH fr dst (.tup []),en,cnt⟩ Q):=by
 simp only[kX,nH,wanted,pB]
 split<;>rename_i h
 ·split at h
  ·rename_i b' hb;simp only[bN7]at h;simp only[hb,h,if_true]
  ·cases h
  ·cases h
 ·split at h
  ·rename_i b' hb;simp only[bN7]at h;simp only[hb,h,bOa,if_false,true_and]
  ·rename_i hb;simp only[hb,true_and]
  ·cases h
 ·split at h
  ·cases h
  ·cases h
  ·rename_i h1 h2;split
   ·rename_i b' hb;exact absurd hb (h1 _)
   ·rename_i hb;exact absurd hb h2
   ·rfl
@[go_sem] theorem bJ6 {f:Opd}{args:List Opd}:kX L (⟨dst,.call f args,none⟩::l) ⟨fr,en,cnt⟩ Q=
  aBn L en (St.get fr f) (args.map (St.get fr)) fun r ks=>aF8 L l dst fr en cnt Q (some (fY 0 (dst.getD 0) (cnt 0 (dst.getD 0)) r ks)):=by
 simp only[kX,nH,wanted,WOp,aBn,aF6,aPq];cases St.get fr f<;>first|rfl|skip
end
section
variable {L :bG}{Q:St->Prop}
def aDk (m:Nat)(en:En)(a v:Val):Option Res:=
  if v.one=true/\ v.cells.length=m then
   match a with
   | .ptr k off=>match en k with
    |some (.box cs false)=>if off+m<=cs.length then some {v:= .tup [],ws:=[.cells k off v.cells],rs:=[.flag k]}else none
    |_=>none
   | .ep k i off=>match en k with
    |some (.blk _ xs false)=>match xs[i]? with
     |some y=>if off+m<=y.cells.length then
       if k.deep then none else
       match snapD 8 en v with
       |some (v',ks)=>if v'.one=true/\ v'.cells.length=m/\ ks.all (fun k'=>decide (k'≠k))=true then some {v:= .tup [],ws:=ks.map .frz++[.elem k i off v'.wk1.cells],rs:= .val k:: .flag k::ks.map .val}else none
       |none=>none
      else none
     |none=>none
    |_=>none
   |_=>none
  else none
@[go_sem] theorem bF1 {a:Opd}:cO d g en get (.store m a x)=aDk m en (get a) (get x):=(rfl)
@[go_sem] theorem bF2 {k:Key}(h1:v.one=true)(h2:v.cells.length=m):aDk m en (.ptr k off) v=(match en k with
    |some (.box cs false)=>if off+m<=cs.length then some {v:= .tup [],ws:=[.cells k off v.cells],rs:=[.flag k]}else none
    |_=>none):=by simp[aDk,h1,h2]
@[go_sem] theorem bCu {k:Key}:(W.cells k off vs).apply en=(match en k with
  |some (.box cs f)=>en.set k (some (.box (setCells cs off vs) f))
  |_=>en):=(rfl)
def jK (str:Bool)(size:Nat)(en:En)(x:Val)(lo hi mx:Option Val):Option Res:=
  if str then
   match x,mx with
   | .str s,none=>match iG hi s.size s.size with
    |some h=>(iG lo 0 h).map fun l=>{v:= .str (s.extract l h)}
    |none=>none
   |_,_=>none
  else match x with
   | .fz xs=>match mx with
    |none=>match iG hi xs.length xs.length with
     |some h=>match iG lo 0 h with
      |some l=>if l=0 \/cP size xs=true then some {v:= .fz ((xs.take h).drop l)}else none
      |none=>none
     |none=>none
    |some m=>aHq size xs lo hi m
   | .cl xs=>match mx with
    |none=>match iG hi xs.length xs.length with
     |some h=>match iG lo 0 h with
      |some l=>if l=0 \/cP size xs=true then some {v:=if h=xs.length then .cl (xs.drop l)else .fz ((xs.take h).drop l)}else none
      |none=>none
     |none=>none
    |some m=>aHq size xs lo hi m
   | .bl k off len=>match mx with
    |none=>match iG hi len len with
     |some h=>match iG lo 0 h with
      |some l=>match en k with
       |some (.blk sz _ _)=>if l=0 \/sz=size then some {v:= .bl k (off+l) (h-l),rs:=[.val k]}else none
       |_=>none
      |none=>none
     |none=>none
    |some _=>none
   |_=>none
@[go_sem] theorem bF3 {str:Bool}{lo hi mx:Option Opd}:cO d g en get (.slice str size x lo hi mx)=jK str size en (get x) (lo.map get) (hi.map get) (mx.map get):=by
 cases mx<;>cases str<;>(simp only[cO,eval,jK,Option.map])<;>cases get x<;>rfl
@[go_sem] theorem tG {a:Nat}:iG none a t=some a:=(rfl)
theorem sI {i a:Nat}(h:i<=t):iG (some (.int k (i:Int))) a t=some i:=by
 simp only[iG];rw[if_pos ⟨by omega,by omega⟩];simp
@[go_sem] theorem tH {i:Nat}(h:i<=xs.length):jK false size en (.fz xs) none (some (.int k (i:Int))) none=some {v:= .fz (xs.take i)}:=by
 simp[jK,sI h,tG]
theorem aIu {i:Nat}(h:i<=xs.length)(hs:cP size xs=true):jK false size en (.fz xs) (some (.int k (i:Int))) none none=some {v:= .fz (xs.drop i)}:=by
 simp[jK,sI h,tG,hs]
end
theorem aPs {l:List α}{k:Nat}(h:k<l.length)(p:α->Bool):(l.drop k).any p=(p l[k]||(l.drop (k+1)).any p):=by
 rw[bO9 h,List.any_cons]
theorem fJ {l:List α}{k:Nat}(h:k<l.length)(p:α->Bool):(l.drop k).all p=(p l[k]&&(l.drop (k+1)).all p):=by
 rw[bO9 h,bQg]
variable {D:List Nat}
section
variable {L :bG}{Q:St->Prop}
def iZ (en:En)(v:Val)(size:Nat)(xs:List Val)(D:List Nat):Prop:=
 (v= .cl []/\ xs=[]) \/ ∃t g f,v= .bl ⟨0,t,g⟩ 0 xs.length/\ en ⟨0,t,g⟩=some (.blk size xs f)/\ t∈D
theorem iZ.nil (size:Nat)(D:List Nat):iZ en (.cl []) size [] D:= .inl ⟨rfl,rfl⟩
theorem iZ.keep (h:iZ en v size xs D)(k: ∀t g,t∈D->en' ⟨0,t,g⟩=en ⟨0,t,g⟩):iZ en' v size xs D:=by
 rcases h with h|⟨t,g,f,h1,h2,h3⟩
 ·exact .inl h
 ·exact .inr ⟨t,g,f,h1,by rw[k t g h3];exact h2,h3⟩
theorem iZ.sub {D':List Nat}(h:iZ en v size xs D)(k: ∀t∈D,t∈D'):iZ en v size xs D':=by
 rcases h with h|⟨t,g,f,h1,h2,h3⟩
 ·exact .inl h
 ·exact .inr ⟨t,g,f,h1,h2,k t h3⟩
theorem iZ.snap (h:iZ en v size xs D)(n:Nat):
  ∃r ks,snapD (n+1) en v=some (r,ks)/\ r.wk0= .fz xs/\ r.wk1= .fz xs/\ r.wk= .fz xs/\ (r= .fz xs \/r= .cl xs):=by
 rcases h with⟨rfl,rfl⟩|⟨t,g,f,rfl,h2,_⟩
 ·exact⟨.cl [],[],rfl,rfl,rfl,rfl,.inr rfl⟩
 ·refine⟨.fz xs,[⟨0,t,g⟩],?_,rfl,rfl,rfl,.inl rfl⟩
  simp[snapD,h2,aIs]
theorem iZ.len (h:iZ en v size xs D):rP v=some xs.length:=by
 rcases h with⟨rfl,rfl⟩|⟨t,g,f,rfl,h2,_⟩<;>rfl
@[go_sem] theorem bHu :iC en (.cl xs)=some (xs,[]):=(rfl)
@[go_sem] theorem aYd :iC en (.fz xs)=some (xs,[]):=(rfl)
theorem zL {y:Opd}{rs:List R}(hx:iZ en (St.get fr x) size xs D)(hy:iC en (St.get fr y)=some (ys,rs))(h1:cP size ys=true)
  (hl:xs.length+ys.length<=16777216)
  (k: ∀v en' cnt',iZ en' v size (xs++ys) (d::D)->(∀n t g,n≠0 \/(t≠d/\ t∉D)->en' ⟨n,t,g⟩=en ⟨n,t,g⟩)->(∀n t,t≠d->cnt' n t=cnt n t)->iM L l ⟨jB fr d v,en',cnt'⟩ Q):
  iM L (⟨some d,.append size x y,none⟩::l) ⟨fr,en,cnt⟩ Q:=by
 rw[aPp (by rfl)]
 simp only[bOz];rcases hx with⟨hv,rfl⟩|⟨t,g,f,hv,he,ht⟩
 ·simp only[cO,eval,fD,hy,h1,if_true,hv]
  by_cases hys:ys.isEmpty=true
  ·have:ys=[]:=by simpa using hys
   subst this;simp only[List.isEmpty_nil,if_true,aLn,fF];exact k _ _ _ (.inl ⟨rfl,rfl⟩) (fun _ _ _ _=>rfl) (fun _ _ _=>rfl)
  ·rw[if_neg hys,if_pos ⟨by simpa using hl,rfl⟩]
   simp only[aE6,jS,fF,wE]
   refine k _ _ _ (.inr ⟨d,cnt 0 d,false,by simp,by simp[En.set],by simp⟩) (fun n t g h=>pU (fun he=>?_)) (fun n t h=>by simp[aC,h])
   injection he with h3 h4 h5
   rcases h with h|⟨h,_⟩
   ·exact h h3
   ·exact h h4
 ·simp only[cO,eval,fD,aIs,hy,h1,if_true,hv,he];rw[if_pos ⟨.inl (by simp),hl,trivial,fun h=>by cases h⟩]
  simp only[aE6,jS,fF,wE]
  refine k _ _ _ (.inr ⟨d,cnt 0 d,f,by simp,?_,by simp⟩) (fun n t' g' h=>?_) (fun n t h=>by simp[aC,h])
  ·simp[En.set]
  ·have e1:(⟨n,t',g'⟩:Key)≠⟨0,d,cnt 0 d⟩:=by
    intro he;injection he with h3 h4 h5;rcases h with h|⟨h,_⟩
    ·exact h h3
    ·exact h h4
   have e2:(⟨n,t',g'⟩:Key)≠⟨0,t,g⟩:=by
    intro he;injection he with h3 h4 h5;subst h4;rcases h with h|⟨_,h⟩
    ·exact h h3
    ·exact h ht
   rw[pU e1,pU e2]
def aT5 (x i:Val):Option Res:=match x,i with
  | .str s,.int _ j=>if 0<=j then(s[j.toNat]?).map fun b=>{v:= .int .u8 b.toNat}else none
  |_,_=>none
@[go_sem] theorem bJ7 {i:Opd}:cO d g en get (.ixs x i)=aT5 (get x) (get i):=(rfl)
theorem bA7 (h:j<s.data.toList.length):aT5 (.str s) (.int k (j:Int))=some {v:= .int .u8 (s.data.toList[j]).toNat}:=by
 have h':j<s.size:=by rw[bQc]at h;exact h
 have e:s[(j:Int).toNat]?=some (s.data.toList[j]):=by
  simp only[bPc];rw[getElem?_pos s j h'];exact congrArg some (by rw[ByteArray.getElem_eq_getElem_data,bQ0])
 unfold aT5;simp only[if_pos (bQo j),e,Option.map]
end
inductive dI (a b:Prop):Type
 |mk
section
variable {L :bG}{Q:St->Prop}{R:Ex->St->Prop}
def aE7 (v:Val)(a b:Prop)(_:dI a b):Prop:=aIr v a b
def nR (v:Val)(t:Bool)(a b:Prop)(_:dI a b):Prop:=pB v t a b
@[congr] theorem bA8 {a b:Prop}{k:dI a b}(h:v=v'):aE7 v a b k=aE7 v' a b k:=by rw[h]
@[congr] theorem bAc {t:Bool}{a b:Prop}{k:dI a b}(h:v=v'):nR v t a b k=nR v' t a b k:=by rw[h]
theorem qC {x:Opd}{a b:bA}:Wp L (.cond x a b) ⟨fr,en,cnt⟩ R=aE7 (St.get fr x) (Wp L a ⟨fr,en,cnt⟩ R) (Wp L b ⟨fr,en,cnt⟩ R) .mk:=(rfl)
theorem aYe {a b:Prop}{k:dI a b}:aE7 (.bool true) a b k=a:=(rfl)
theorem aYf {a b:Prop}{k:dI a b}:aE7 (.bool false) a b k=b:=(rfl)
theorem aD {t:Bool}{a b:Prop}{k:dI a b}(h:t=true->a)(h':t=false->b):aE7 (.bool t) a b k:=aX h h'
theorem qG {t:Nat}{b:Bool}{op:LOp}:iM L (⟨dst,op,some (t,b)⟩::l) ⟨fr,en,cnt⟩ Q=
  nR (fr t) b (iM L (⟨dst,op,none⟩::l) ⟨fr,en,cnt⟩ Q) (iM L l ⟨gH fr dst (.tup []),en,cnt⟩ Q) .mk:=bA2
theorem qS {t:Nat}{b:Bool}{op:LOp}:kX L (⟨dst,op,some (t,b)⟩::l) ⟨fr,en,cnt⟩ Q=
  nR (fr t) b (kX L (⟨dst,op,none⟩::l) ⟨fr,en,cnt⟩ Q) (kX L l ⟨gH fr dst (.tup []),en,cnt⟩ Q) .mk:=aYc
theorem aVg {a b:Prop}{k:dI a b}:nR (.bool true) true a b k=a:=(rfl)
theorem aVh {a b:Prop}{k:dI a b}:nR (.bool false) false a b k=a:=(rfl)
theorem aVi {a b:Prop}{k:dI a b}:nR (.bool true) false a b k=b:=(rfl)
theorem aVj {a b:Prop}{k:dI a b}:nR (.bool false) true a b k=b:=(rfl)
theorem aVk {a b:Prop}{k:dI a b}{t:Bool}:nR (.tup []) t a b k=b:=(rfl)
theorem aG {k:dI yes no}(h:b=b'->yes)(h':b=!b'->no):nR (.bool b) b' yes no k:=bB h h'
end
theorem aCc {L:bG}{b:bA}{R:Ex->St->Prop}:Wp L (.seq (.ops l) b) st R=iM L l st fun st'=>Wp L b st' R:=(rfl)
theorem aA5 {L:bG}{a b:bA}{Q:Ex->St->Prop}(M:St->Prop)
  (h:Wp L a st fun e st'=>match e with| .normal=>M st'| .exit i=>Q (.exit i) st'| .ret=>Q .ret st'| .panic v=>Q (.panic v) st') (k: ∀fr en cnt,M ⟨fr,en,cnt⟩->Wp L b ⟨fr,en,cnt⟩ Q):Wp L (.seq a b) st Q:=
 bD7 M h fun st' h'=>k _ _ _ h'
section
variable {L :bG}{Q:St->Prop}
def bEn (size:Nat)(z:List Val)(d g:Nat)(x y:Val):Option Res:=match x,y with
  | .int .i64 a,.int .i64 b=>if a=b/\ aOq a=true then
    some {v:= .bl ⟨0,d,g⟩ 0 a.toNat,ws:=[.ent ⟨0,d,g⟩ (some (.blk size (List.replicate a.toNat (iK size z false)) false))],bump:=true}else none
  |_,_=>none
@[go_sem] theorem bF4 {y:Opd}:cO d g en get (.mklen size z x y)=bEn size z d g (get x) (get y):=(rfl)
theorem aYg {n:Nat}(h:n<=16777216):bEn size z d g (.int .i64 (n:Int)) (.int .i64 (n:Int))=some {v:= .bl ⟨0,d,g⟩ 0 n,ws:=[.ent ⟨0,d,g⟩ (some (.blk size (List.replicate n (iK size z false)) false))],bump:=true}:=by
 have:aOq (n:Int)=true:=by simp[aOq];omega
 simp[bEn,this]
@[go_sem] theorem bCv :iK 1 [.bool b] false= .bool b:=(rfl)
@[go_sem] theorem bEo {n:Int}:iK 1 [.int k n] false= .int k n:=(rfl)
@[go_sem] theorem bNx {len:Nat}{k:Key}{kk:IntKind}{j:Int}:oP size en (.bl k off len) (.int kk j)=(match en k with
  |some (.blk sz _ _)=>if 0<=j/\ j<len/\ sz=size then some {v:= .ep k (off+j.toNat) 0,rs:=[.val k]}else none
  |_=>none):=(rfl)
@[go_sem] theorem bJ8 {k:Key}{i n:Nat}:pZ en (.ep k i off) n=(match en k with
  |some (.blk _ xs _)=>(match xs[i]? with
   |some x=>if off+n<=x.cells.length then some ((x.cells.drop off).take n,[.val k])else none
   |none=>none)
  |_=>none):=(rfl)
@[go_sem] theorem bHv {i:Nat}{k:Key}(h1:v.one=true)(h2:v.cells.length=m):aDk m en (.ep k i off) v=(match en k with
    |some (.blk _ xs false)=>(match xs[i]? with
     |some y=>if off+m<=y.cells.length then
       if k.deep=true then none else
       (match snapD 8 en v with
       |some (v',ks)=>if v'.one=true/\ v'.cells.length=m/\ ks.all (fun k'=>decide (k'≠k))=true then some {v:= .tup [],ws:=ks.map .frz++[.elem k i off v'.wk1.cells],rs:= .val k:: .flag k::ks.map .val}else none
       |none=>none)
      else none
     |none=>none)
    |_=>none):=by simp[aDk,h1,h2]
@[go_sem] theorem bEp {k:Key}{i:Nat}:(W.elem k i off vs).apply en=(match en k with
  |some (.blk sz xs f)=>(match xs[i]? with
   |some x=>en.set k (some (.blk sz (xs.set i (eH x off vs)) f))
   |none=>en)
  |_=>en):=(rfl)
@[go_sem] theorem bHw :eH (.bool b) 0 [v]=v:=(rfl)
@[go_sem] theorem bJ9 {n:Int}:eH (.int k n) 0 [v]=v:=(rfl)
attribute [go_sem] List.all_nil ite_self
end
variable {tbl:List (Nat×Nat)}
section
variable {L :bG}{n:Nat}
@[go_sem] theorem bNy {b:List Val}:snapD (n+1) en (.fn f a b)=(match cM (snapD n en) a with
   |some x=>(match cM (snapD n en) b with
    |some y=>some (.fn f (x.map (·.1)) (y.map (·.1)),x.flatMap (·.2)++y.flatMap (·.2))
    |none=>none)
   |none=>none):=(rfl)
@[go_sem] theorem bL5 :snapD (n+1) en (.ifc t v)=(match snapD n en v with
   |some r=>some (.ifc t r.1,r.2)
   |none=>none):=(rfl)
@[go_sem] theorem g_m {i:Nat}:St.get fr (.m tbl i)=yQ tbl (fr i):=(rfl)
@[go_sem] theorem bEq :yQ tbl (.ifc t v)=(match tbl.lookup t with
  |some f=> .fn f [v] []
  |none=> .dead):=(rfl)
attribute [go_sem] List.lookup_cons
structure dJ {α:Type} (L:bG) (enc:α->Val) (h:Val) (p:α->Bool) (l:List α):Prop where
 snap: ∀n en,4<=n->snapD n en h=some (h,[])
 wk:h.wk1=h
 one:h.one=true
 cells:h.cells=[h]
 call: ∀x∈l,∀en K,K (.bool (p x)) []->aBn L en h [enc x] K
theorem kZ (h1:v.one=true)(h2:v.cells=[v]):pD d g 1 v=some {v:= .ptr ⟨0,d,g⟩ 0,ws:=[.ent ⟨0,d,g⟩ (some (.box [v] false))],bump:=true}:=by
 simp[pD,h1,h2]
end
def idxOf {α:Type}(p:α->Bool):List α->Nat->Int
 |[],_=> -1
 |x::l,k=>if p x then(k:Int)else idxOf p l (k+1)
theorem mX {α:Type}(p:α->Bool): ∀(l:List α) (k:Nat),decide (0<=idxOf p l k)=l.any p
 |[],k=>by simp[idxOf]
 |x::l,k=>by
  simp only[idxOf,List.any_cons];split
  ·rename_i h;simp[h]
  ·rename_i h;rw[mX p l (k+1)];simp[h]
variable {key:Key}
section
def bCw (d g:Nat)(x:Val):Option Res:=match x with
  | .str s=>some {v:= .it ⟨0,d,g⟩,ws:=[.ent ⟨0,d,g⟩ (some (.iter s 0))],bump:=true}
  |_=>none
@[go_sem] theorem bKa :cO d g en get (.rng x)=bCw d g (get x):=(rfl)
@[go_sem] theorem bKb :bCw d g (.str s)=some {v:= .it ⟨0,d,g⟩,ws:=[.ent ⟨0,d,g⟩ (some (.iter s 0))],bump:=true}:=(rfl)
def bCx (en:En)(x:Val):Option Res:=match x with
  | .it k=>match en k with
   |some (.iter s pos)=>
    if pos<s.size then some {v:= .tup [.bool true,.int .i64 pos,.int .i32 (Utf8.decode s pos).1],ws:=[.ent k (some (.iter s (pos+(Utf8.decode s pos).2)))],rs:=[.val k,.flag k]}
    else some {v:= .tup [.bool false],rs:=[.val k]}
   |_=>none
  |_=>none
@[go_sem] theorem bKc :cO d g en get (.nxt x)=bCx en (get x):=(rfl)
@[go_sem] theorem bL6 {k:Key}:bCx en (.it k)=(match en k with
   |some (.iter s pos)=>
    if pos<s.size then some {v:= .tup [.bool true,.int .i64 pos,.int .i32 (Utf8.decode s pos).1],ws:=[.ent k (some (.iter s (pos+(Utf8.decode s pos).2)))],rs:=[.val k,.flag k]}
    else some {v:= .tup [.bool false],rs:=[.val k]}
   |_=>none):=(rfl)
def bCy (t:EqT)(en:En)(m k x:Val):Option Res:=match m with
  | .mp key=>match en key with
   |some (.map ks vs false)=>
    if sP t k&&x.flat1 then
     match findKey t k ks with
     |some (some i)=>some {v:= .tup [],ws:=[.ent key (some (.map (ks.set i k) (vs.set i x) false))],rs:=[.val key,.flag key]}
     |some none=>some {v:= .tup [],ws:=[.ent key (some (.map (ks++[k]) (vs++[x]) false))],rs:=[.val key,.flag key]}
     |none=>none
    else none
   |_=>none
  |_=>none
@[go_sem] theorem bHx {t:EqT}{m k:Opd}:cO d g en get (.mput t m k x)=bCy t en (get m) (get k) (get x):=(rfl)
@[go_sem] theorem bL7 {t:EqT}{k x:Val}:bCy t en (.mp key) k x=(match en key with
   |some (.map ks vs false)=>
    if(sP t k&&x.flat1)=true then
     (match findKey t k ks with
     |some (some i)=>some {v:= .tup [],ws:=[.ent key (some (.map (ks.set i k) (vs.set i x) false))],rs:=[.val key,.flag key]}
     |some none=>some {v:= .tup [],ws:=[.ent key (some (.map (ks++[k]) (vs++[x]) false))],rs:=[.val key,.flag key]}
     |none=>none)
    else none
   |_=>none):=(rfl)
@[go_sem] theorem bF5 :sP .str (.str s)=true:=(rfl)
@[go_sem] theorem bF6 {n:Int}:sP .num (.int k n)=true:=(rfl)
@[go_sem] theorem bEr :Val.flat1 (.bool b)=true:=(rfl)
@[go_sem] theorem bF7 {n:Int}:Val.flat1 (.int k n)=true:=(rfl)
@[go_sem] theorem bL8 {k:Key}:aF7 .map en (.mp k)=(match en k with
    |some (.map ks _ _)=>some {v:= .int .i64 ks.length,rs:=[.val k]}
    |_=>none):=(rfl)
def aCd (t:EqT)(z:Val)(ok:Bool)(k:Val)(ks vs:List Val):Option Val:=match findKey t k ks with
    |some (some i)=>some (if ok then .tup [vs.getD i .dead,.bool true]else vs.getD i .dead)
    |some none=>some (if ok then .tup [z,.bool false]else z)
    |none=>none
def aPt (t:EqT)(z:Val)(ok:Bool)(en:En)(m k:Val):Option Res:=
  if sP t k then
   match m with
   | .mp key=>match en key with
    |some (.map ks vs _)=>(aCd t z ok k ks vs).map fun v=>{v,rs:=[.val key]}
    |_=>none
   | .fm ks vs=>(aCd t z ok k ks vs).map fun v=>{v}
   | .nilm=>(aCd t z ok k [] []).map fun v=>{v}
   |_=>none
  else none
@[go_sem] theorem bHy {t:EqT}{z:Val}{m k:Opd}:cO d g en get (.mget t z ok m k)=aPt t z ok en (get m) (get k):=(rfl)
@[go_sem] theorem bL9 {t:EqT}{z:Val}{k:Val}(h:sP t k=true):aPt t z ok en (.mp key) k=(match en key with
    |some (.map ks vs _)=>(aCd t z ok k ks vs).map fun v=>{v,rs:=[.val key]}
    |_=>none):=by simp[aPt,h]
@[go_sem] theorem bMa {t:EqT}{z:Val}{k:Val}{ks:List Val}(h:sP t k=true):aPt t z ok en (.fm ks vs) k=(aCd t z ok k ks vs).map fun v=>{v}:=by simp[aPt,h]
end
theorem zM {L:bG}{g:Opd}{a b:bA}{Q:Ex->St->Prop}{x y:List Val}(h:St.get fr g= .fn f x y)
  (H: ∀fr0 k,fr0=fr->k=jJ cnt->WIn L (.fn f x y) [.yld k] (en.set k (some (.loop fr0 ps a b .ready))) (aC cnt 1 0 (cnt 1 0+1)) fun _ en' cnt'=>
   match en' k with
   |some (.loop _ _ _ _ .ready)=>Q .normal ⟨fr,en'.set k none,cnt'⟩
   |some (.loop _ _ _ _ (.done e))=>Q e ⟨fr,en'.set k none,cnt'⟩
   |_=>False):Wp L (.rangeF g ps a b) ⟨fr,en,cnt⟩ Q:=by
 simp only[Wp,h];exact .inl (H fr _ rfl rfl)
theorem aLp {L:bG}{g:Opd}{a b:bA}{Q:Ex->St->Prop}{x y:List Val}(h:St.get fr g= .fn f x y)
  (H: ∀fr0 k,fr0=fr->k=jJ cnt->vC L f (x++[.yld k]++y) (en.set k (some (.loop fr0 ps a b .ready))) (aC cnt 1 0 (cnt 1 0+1)) fun v en' cnt'=>Q (.panic v) ⟨fr,en'.set k none,cnt'⟩):Wp L (.rangeF g ps a b) ⟨fr,en,cnt⟩ Q:=by
 simp only[Wp,h];exact .inr (H fr _ rfl rfl)
@[go_sem] theorem bEs :yT fr [] vs=fr:=(rfl)
@[go_sem] theorem bCz {p:Nat}:yT fr (p::ps) (v::vs)=yT (jB fr p v) ps vs:=(rfl)
theorem aSp :jJ cnt=⟨1,0,cnt 1 0⟩:=rfl
theorem iZ.shape (h:iZ en v size xs D):v.one=true/\ v.cells=[v]:=by
 rcases h with⟨rfl,_⟩|⟨t,g,f,rfl,_⟩<;>exact⟨rfl,rfl⟩
attribute [go_sem] aYe aYf aVg aVh aVi aVj aVk Int.cast_ofNat_Int beq_self_eq_true
attribute [go_sem] Nat.reduceEqDiff Nat.reduceBEq Nat.reduceMul Nat.reduceLeDiff Nat.reduceAdd Nat.reduceSub Nat.reduceLT Int.reduceLT Int.reduceLE Int.reduceToNat Int.reduceAdd Int.reduceNeg Int.reduceEq Int.reduceOfNat Int.reduceNegSucc
theorem kK :type_of% @qC/\ type_of% @qG/\ type_of% @qS/\ type_of% @qW:=⟨@qC,@qG,@qS,@qW⟩
theorem kA :type_of% @bQg.{0}/\ type_of% @bQn.{0}/\ type_of% @bRk.{0}/\ type_of% @Bool.true_or/\ type_of% @bP3:=⟨@bQg.{0},@bQn.{0},@bRk.{0},@Bool.true_or,@bP3⟩
theorem kF :type_of% @bOa/\ type_of% @if_false.{1}/\ type_of% @bOz.{0}:=⟨@bOa,@if_false.{1},@bOz.{0}⟩
end Go.Abs
