/- The interpreter of the translated code, and its proof: part C. -/
import Derived.Test.YtmafmhjndjmalaaGreatHxB
import Derived.RecoverIn
import Derived.KernelRfl
import Derived.ProofKit
import Derived.OpenShut
import Derived.JoinedOf
import Derived.Test.YtmafmhjndjmalaaGreatHxA
import Derived.IntWalk
import Derived.ChangeArms
import Derived.ChangeBears
set_option linter.all false
open Array renaming getD_eq_getD_getElem? -> bTc, getElem?_append -> bVs, getElem?_eq_getElem -> bTi, getElem?_eq_some_iff -> bUt, getElem_toList -> bVu, length_toList -> bVa, mapM_eq_mapM_toList -> bWk, size_append -> bV0
open Bool renaming and_eq_true -> bSw, and_false -> bT6, and_true -> bUc, false_and -> bTk, false_eq_true -> bS0, false_or -> bTz, not_eq_true -> bT9, not_eq_true' -> bUb, not_false -> bTf, not_true -> bS6, or_eq_true -> bT7, or_true -> bUz, true_and -> bTo
open Int renaming natCast_nonneg -> bVm, toNat_natCast -> bTt
open List renaming all_cons -> bVd, all_eq_true -> bS5, any_eq_true -> bVv, append_nil -> bT1, cons_append -> bVh, drop_eq_getElem_cons -> bT2, drop_eq_nil_iff -> bV7, drop_zero -> bU2, flatMap_cons -> bVk, flatMap_nil -> bU3, foldl_nil -> bVj, getD_cons_zero -> bVx, getD_eq_getElem?_getD -> bSz, getElem?_append -> bVr, getElem?_cons_succ -> bWf, getElem?_cons_zero -> bVl, getElem?_eq_getElem -> bTy, getElem?_eq_some_iff -> bWj, getElem_mem -> bS7, isEmpty_iff -> bV2, length_append -> bTg, length_cons -> bS8, length_eq_zero_iff -> bWi, length_map -> bSy, length_nil -> bTd, map_congr_left -> bU6, map_cons -> bTv, map_nil -> bTe, mem_append -> bTn, mem_append_left -> bVb, mem_append_right -> bUn, mem_cons -> bTp, mem_cons_of_mem -> bU4, mem_cons_self -> bWa, mem_flatMap -> bUa, mem_map -> bTu, mem_range -> bTx, mem_singleton -> bUg, nil_append -> bT4, range'_succ -> bVp, range_eq_range' -> bVz, range_succ -> bV4, set_cons_succ -> bU1, set_cons_zero -> bU0, take_succ_cons -> bS3, take_zero -> bS2
open Nat renaming add_zero -> bUk, le_refl -> bSx, zero_add -> bTw, zero_le -> bS4
open Option renaming bind_eq_bind -> bTj, bind_eq_some_iff -> bTb, bind_some -> bVt, getD_some -> bTq, isNone_iff_eq_none -> bV3, isSome_none -> bU7, map_eq_some_iff -> bTa, map_some -> bTr, pure_def -> bTl
open Option.some renaming injEq -> bSv
open Prod.mk renaming injEq -> bS1
namespace Go.Abs
open Go.RowKit (Below)
variable [Inhabited nO]
def Ex.mode (x:Value):Ex->FrameMode
 | .panic _=> .panicking (aAo x)
 |_=> .returning
variable {e:Ex}
theorem Ex.mode_run {x:Value}:e.mode x≠ .run:=by cases e<;>simp[Ex.mode]
variable {I:Operand->Bool}{P:Program}{lc:bB}{ops:Array Oper}{ts:List Nat}
theorem aTx {k:Call}{y:Code}(h:aWc P I ts ops k y=some lc):
  ∃F f args l,k.callee= .value F/\ aS F=some f/\ kC k.args.toList=some args/\ cY (fS P I ops) ops.toList.dropLast=some l/\ lc= .dfr ts l f args (cK P I y):=by
 simp only[aWc]at h
 split at h
 case h_2=>cases h
 rename_i F hF
 split at h
 case h_2=>cases h
 rename_i f args l h1 h2 h3;simp only[bSv]at h;exact⟨F,f,args,l,hF,h1,h2,h3,h.symm⟩
variable {c:Code}
theorem bCi (h:aDe P I ts c=some lc):lc.isRcv=false:=by
 cases c<;>simp only[aDe,reduceCtorEq]at h
 split at h
 ·obtain⟨_,_,_,_,_,_,_,_,rfl⟩:=aTx h;rfl
 ·split at h
  ·simp only[bSv]at h;subst h;rfl
  ·cases h
variable {l:List aN}
theorem bFt {dst:Option Nat}{b:bB}(h:aFw P I ts c=some (.rcv dst l b)):
  ∃id ops c' o rest,c= .seq (.region id ops false) c'/\ ops.toList=o::rest/\ aHx o=true/\ rest.all aQz=true/\ cY (fS P I ops) rest=some l/\ dst=o.dst/\ b=cK P I c'/\ (cK P I c').noRg=true:=by
 simp only[aFw]at h
 split at h
 ·rename_i x hx;simp only[bSv]at h;subst h;unfold aWd at hx
  split at hx
  case h_2=>cases hx
  rename_i id ops c'
  split at hx
  case h_2=>cases hx
  rename_i o rest ho
  split at hx
  case isFalse=>cases hx
  rename_i hc;simp only[bSw]at hc;obtain⟨l',hl,he⟩:=bTa.1 hx;simp only[bB.rcv.injEq]at he;obtain⟨rfl,rfl,rfl⟩:=he;exact⟨_,ops,c',o,rest,rfl,ho,hc.1.1,hc.1.2,hl,rfl,rfl,hc.2⟩
 ·split at h
  ·rename_i x hx;simp only[bSv]at h;subst h;have:=bCi hx;cases this
  ·split at h
   ·cases h
   ·rename_i hn;simp only[bSv]at h;rw[h]at hn;simp[bB.isRcv]at hn
variable {call:bE}{io:Inl}{n B:Nat}{S:Nat->Nat->Prop}{Ξ:Env}
section
variable {N:Nat}{ro:Option Nat}{m:Nat}
theorem bFu (hcall:mE P call)(hio:yZ P io)(hl: ∀i (h:i<l.length),∃h':i<ops.size,fS P I ops ops[i]=some l[i])(hd:l.all (fun o=>o.dst.all (· <N))=true){Q:Exit->Act->World->Prop}{rest:List Nat}:
  ∀(k i:Nat) (st st':St) (G:Gh) (a:Act) (w:World),i+k=l.length->Rel P Ξ B S G st N a w->gY n call io 0 (l.drop i) st=some st'->
   (∀a' w' G',Rel P Ξ B S G' st' N a' w'->Below B w w'->wpOpsIn (Fx ro) m P ops Q rest a' w')->wpOpsIn (Fx ro) m P ops Q (List.range' i k++rest) a w:=by
 intro k
 induction k with
 |zero=>
  intro i st st' G a w hik hR hrun hQ;have:l.drop i=[]:=bV7.2 (by omega)
  rw[this]at hrun;simp only[gY,bSv]at hrun;subst hrun;exact hQ a w G hR (Below.refl _ _)
 |succ k ih=>
  intro i st st' G a w hik hR hrun hQ;have hil:i<l.length:=by omega
  obtain⟨hi,hlow⟩:=hl i hil;rw[bT2 hil]at hrun;simp only[gY]at hrun
  split at hrun
  case h_2=>cases hrun
  rename_i st1 r hs;rw[bVp,bVh,wpOpsIn_cons];unfold wpOpIn;rw[bTi hi];exact pV hcall hio hR hlow (bS5.1 hd _ (bS7 hil)) hs fun a' w' G' h1 h2=>
   ih (i+1) st1 st' G' a' w' (by omega) h1 hrun fun a'' w'' G'' h3 h4=>hQ a'' w'' G'' h3 (h2.trans h4)
theorem aTy (hl: ∀i (h:i<l.length),∃h':i+1<ops.size,aQz ops[i+1]=true/\ fS P I ops ops[i+1]=some l[i])(hd:l.all (fun o=>o.dst.all (· <N))=true){Q:Exit->Act->List Frame->World->Prop}{cs:List Frame}{w:World}:
  ∀(k i:Nat) (st st':St) (G:Gh) (a:Act),i+k=l.length->Rel P Ξ B S G st N a w->gY n call io 0 (l.drop i) st=some st'->
   (∀a' G',Rel P Ξ B S G' st' N a' w->Q .normal a' cs w)->wpOpsSIn Fence.wide m P ops Q (List.range' (i+1) k) a cs w:=by
 intro k
 induction k with
 |zero=>
  intro i st st' G a hik hR hrun hQ;have:l.drop i=[]:=bV7.2 (by omega)
  rw[this]at hrun;simp only[gY,bSv]at hrun;subst hrun;exact hQ a G hR
 |succ k ih=>
  intro i st st' G a hik hR hrun hQ;have hil:i<l.length:=by omega
  obtain⟨hi,hmv,hlow⟩:=hl i hil;rw[bT2 hil]at hrun;simp only[gY]at hrun
  split at hrun
  case h_2=>cases hrun
  rename_i st1 r hs;have hdi:=bS5.1 hd _ (bS7 hil);rw[bVp];simp only[wpOpsSIn,bTi hi]
  refine⟨fun _ _=>trivial,?_⟩
  simp only[fS,bTj,bTb,bTl,bSv]at hlow;obtain⟨lop,hop,g,hg,he⟩:=hlow;have hmv': ∃x,(ops[i+1].op= .assign x \/ops[i+1].op= .move x)/\ ops[i+1].guard=none:=by
   unfold aQz at hmv
   split at hmv
   ·rename_i h1 h2;exact⟨_,.inl h1,h2⟩
   ·rename_i h1 h2;exact⟨_,.inr h1,h2⟩
   ·cases hmv
  obtain⟨x,hx,hgd⟩:=hmv';have hw:Region.wanted ops[i+1] (yielded ops a.tmps)=true:=by simp[Region.wanted,hgd]
  have hrun1:(execOp a.eval ops[i+1]).run P w= .ok (.value (a.eval x)) w:=by
   rcases hx with hx|hx<;>simp[execOp,hx]
  obtain⟨y,hy,hlop⟩: ∃y,aS x=some y/\ lop= .mv y:=by
   rcases hx with hx|hx<;>rw[hx]at hop<;>(obtain⟨y,h1,h2⟩:=bTa.1 hop;exact⟨y,h1,h2.symm⟩)
  have hg':g=none:=by rw[hgd]at hg;simpa[aB1]using hg.symm
  rw[<-he,hlop,hg']at hs;rw[<-he]at hdi;simp only[step,wanted,eval,bTk,bS0,if_false,W.applyAll,bVj,bSv,bS1]at hs;obtain⟨rfl,rfl⟩:=hs;simp only[hw,if_true,hrun1];exact ih (i+1) _ st' G _ (by omega) (hR.putO' ops[i+1].dst (aY hR hy) hdi) hrun hQ
end
variable {st':St}
theorem aTz {L:bH}(hL:rA P L)(hE:yI P L n)(hcall:mE P (bP L 8 (exec L n)))(hio:yZ P (fH L (exec L n))){g:Nat}{A args Z:List Val}{st:St}
  (h:iS L (exec L n) (.fn g A Z) args e st=some st'):st'.fr=st.fr∧(∃fn,P.funcs[g]?=some fn∧(fn.name== "runtime.NumGoroutine")=false∧fn.body.isNone=false)∧
  ∀(Ξ:Env) (B:Nat) (S:Nat->Nat->Prop) (G:Gh) (N:Nat) (a:Act) (w:World) (vals:Array Value) (x:Value) (m:Nat),e.val x->Rel P Ξ B S G st N a w->vals.size=(A++args++Z).length->
   (∀i,i<(A++args++Z).length->VR (bA B S G w.heap.size) G w ((A++args++Z).getD i .dead) (vals.getD i undef))->
   CallsDIn Fence.wide m P g vals (e.mode x) w fun ed u' w'=> ∃G' y,ed= .returned y/\ settle u'= .returning/\ Rel P Ξ B S G' st' N a w'/\ Below B w w':=by
 simp only[iS]at h
 split at h
 case h_2=>cases h
 rename_i lf hlf
 split at h
 case h_2=>cases h
 rename_i dst l cb v hbody hrv
 split at h
 case isFalse=>cases h
 rename_i hc;obtain⟨hlen,hres0⟩:=hc
 split at h
 case h_2=>cases h
 rename_i st1 hmoves
 split at h
 case h_2=>cases h
 rename_i e' st2 hx
 split at h
 case isFalse=>cases h
 rename_i hends;simp only[bSv]at h;subst h;obtain⟨fn,I,keep,amb,hfn,hlow⟩:=hL g lf hlf;obtain⟨c,hb,hlb,hdst,hnp,hname,hres⟩:=zA hlow;rw[hbody]at hlb hdst;obtain⟨id,ops,c',o,rest,rfl,hops,hrec,hmv,hl,rfl,rfl,hnr⟩:=bFt hlb
 refine⟨rfl,⟨fn,hfn,hname,by rw[hb];rfl⟩,fun Ξ B S G N a w vals x m hxv hR hvl hv=>?_⟩
 simp only[bB.dstOk,bSw]at hdst;obtain⟨⟨hd1,hd2⟩,hd3⟩:=hdst;obtain⟨Ds0,q1,q2,q3⟩:=hR.marks;have hR1:=aH6 (st0:=st) (fn:=fn) (nm:=true) hR q3 rfl rfl hvl (by omega) hv
 have hsz:ops.size=rest.length+1:=by
  have:=congrArg List.length hops
  simpa using this
 have h0:ops[0]?=some o:=by
  have:ops.toList[0]?=some o:=by rw[hops];rfl
  simpa using this
 have hro: ∃cl,o.op= .call cl/\ cl.callee= .builtin .recover/\ o.guard=none:=by
  unfold aHx at hrec
  split at hrec
  ·rename_i cl h1 h2
   split at hrec
   ·rename_i h3;exact⟨cl,h1,h3,h2⟩
   ·cases hrec
  ·cases hrec
 obtain⟨cl,ho1,ho2,ho3⟩:=hro;obtain⟨m1,m2⟩:=fU hl
 refine callsDIn_of_wpSIn hfn hb trivial fun c₀ cs hmode=>?_
 refine wpSIn_seq (wpSIn_region ?_)
 rw[hsz,bVz,bVp];simp only[wpOpsSIn,h0]
 refine⟨fun _ _=>trivial,?_⟩
 have hw:Region.wanted o (yielded ops (act0 fn vals).tmps)=true:=by simp[Region.wanted,ho3]
 have hrunr: ∀(ρ:Operand->Value) (w:World),(execOp ρ o).run P w= .ok .recover w:=by
  intro ρ w;simp[execOp,ho1,resolve,ho2,invoke,builtin]
 unfold act0 at hw;simp only[hw,if_true,hrunr];have behindR: ∀(y:Value) (u':FrameMode),settle u'= .returning->FV v y->
   wpOpsSIn Fence.wide m P ops (Exit.thenS (Code.wpSIn Fence.wide m P c' (bodyPostS P fn c₀ cs fun ed u' w'=> ∃G' y,ed= .returned y/\ settle u'= .returning/\ Rel P Ξ B S G' {fr:=st.fr,en:=st2.en,cnt:=st2.cnt} N a w'/\ Below B w w'))
    (bodyPostS P fn c₀ cs fun ed u' w'=> ∃G' y,ed= .returned y/\ settle u'= .returning/\ Rel P Ξ B S G' {fr:=st.fr,en:=st2.en,cnt:=st2.cnt} N a w'/\ Below B w w')) (List.range' (0+1) rest.length) ((act0 fn vals).put o.dst y) ({c₀ with mode:=u'}::cs) w:=by
  intro y u' hu' hvy;have hR2:=hR1.putO' o.dst (v:=v) (x:=y) (hvy _ _ _) hd1
  refine aTy (N:=fn.ntmps) (st':=st1) (G:=G) (n:=8) (call:=bP L 8 (exec L n)) (io:=fH L (exec L n)) (l:=l) (I:=I) ?_ hd2 rest.length 0 _ _ (by rw[m1];omega) hR2 (by simpa using hmoves) fun a4 G4 hR4=>?_
  ·intro i hi;have hi':i<rest.length:=by omega
   have hi2:i+1<ops.size:=by omega
   have he:ops[i+1]=rest[i]:=by
    have:ops.toList[i+1]?=rest[i]?:=by rw[hops];rfl
    rw[bTy hi',Array.getElem?_toList,bTi hi2]at this;exact Option.some.inj this
   refine⟨hi2,?_,?_⟩
   ·rw[he];exact bS5.1 hmv _ (bS7 hi')
   ·rw[he];exact m2 i hi' hi
  ·refine wpSIn_of_wpIn rfl ?_
   refine hE I fn.ntmps c' st1 e' st2 _ B S G4 a4 w _ m hd3 (fun _=>hnr) hR4 hx fun a5 w5 G5 x5 _ hR5 hb5=>?_
   have fin:e'.calm=true->a5.defers=[]/\ ∃u'',({c₀ with mode:=u'}::cs:List Frame)={c₀ with mode:=u''}::cs/\ ∃v,(results fn a5.tmps).run P w5= .ok v w5/\
     ∃G' y,Ending.returned v= .returned y/\ settle u''= .returning/\ Rel P Ξ B S G' {fr:=st.fr,en:=st2.en,cnt:=st2.cnt} N a w5/\ Below B w w5:=by
    intro hcalm;have hR6:=hR5.rel hcalm;obtain⟨Ds,r1,r2,r3⟩:=hR6.marks;have hDs:=r2.2 rfl;subst hDs;have hlr:lf.res=[]:=by simpa using hres0
    rw[hlr]at hres;obtain⟨y5,hy5,_⟩:=yJ hR6 hres (vs:=[]) rfl;exact⟨by simpa using r1,u',rfl,y5,hy5,G5,y5,rfl,hu',aH7 (ste:=st2) hR.tmps q1 q2 (fun D hD=>⟨(q3 D hD).1,(q3 D hD).2.1⟩) hR6,hb5⟩
   cases e' with
   |normal=>exact fin rfl
   |ret=>exact fin rfl
   |exit id=>cases hends
   |panic v=>cases hends
 cases e with
 |panic vp=>
  simp only[Ex.mode]at hmode;simp only[Ex.rcvd,bSv]at hrv;subst hrv;have hrc:recoverD (c₀::cs)=some (x,{c₀ with mode:= .panicking [{v:=x,recovered:=true}]}::cs):=by simp[recoverD,hmode,aAo]
  simp only[hrc];exact behindR x _ (by simp[settle]) hxv
 |exit id=>cases hrv
 |normal=>
  simp only[Ex.mode]at hmode;simp only[Ex.rcvd,bSv]at hrv;subst hrv;have hrc:recoverD (c₀::cs)=none:=by simp[recoverD,hmode]
  simp only[hrc];have:=behindR .nilIface .returning rfl (fun _ _ _=> .nili)
  have ec:({c₀ with mode:=FrameMode.returning}:Frame)=c₀:=by rw[<-hmode]
  rw[ec]at this;exact this
 |ret=>
  simp only[Ex.mode]at hmode;simp only[Ex.rcvd,bSv]at hrv;subst hrv;have hrc:recoverD (c₀::cs)=none:=by simp[recoverD,hmode]
  simp only[hrc];have:=behindR .nilIface .returning rfl (fun _ _ _=> .nili)
  have ec:({c₀ with mode:=FrameMode.returning}:Frame)=c₀:=by rw[<-hmode]
  rw[ec]at this;exact this
theorem aPo {α β:Type}{f g:α->Sem β}: ∀{l:List α},(∀x∈l,f x=g x)->l.mapM f=l.mapM g
 |[],_=>by simp
 |x::l,h=>by
  simp only[List.mapM_cons];rw[h x (by simp),aPo fun y hy=>h y (by simp[hy])]
variable {fn:Func}
theorem aRi {tm tm':Array Value}(h: ∀t∈aFv fn.results.toList,tm.getD t undef=tm'.getD t undef):results fn tm=results fn tm':=by
 have:(fn.results.mapM fun(rv:ResultVar)=>(match rv with
   | .tmp t=>(pure (tm.getD t undef):Sem Value)
   | .cell c t=>do loadVar t (<-asAddr (tm.getD c undef))))=(fn.results.mapM fun(rv:ResultVar)=>(match rv with
   | .tmp t=>(pure (tm'.getD t undef):Sem Value)
   | .cell c t=>do loadVar t (<-asAddr (tm'.getD c undef)))):=by
  rw[bWk,bWk]
  congr 1
  refine aPo fun rv hrv=>?_
  have ht:=h (match rv with| .tmp t=>t| .cell c _=>c) (by simp only[aFv,bTu];exact⟨rv,hrv,by cases rv<;>rfl⟩)
  cases rv with
  |tmp t=>simp only at ht⊢;rw[ht]
  |cell c t=>simp only at ht⊢;rw[ht]
 simp only[results];exact congrArg (fun z=>z>>=_) this
theorem bFv {L:bH}(hL:rA P L){R:Ending->World->Prop}{w0:World}(hro:Ξ.ro=none)(ht:Ξ.tail=[])(hnm:Ξ.nm=false)
  (k: ∀a1 w1 G1 x,e.val x->a1.defers=[]->Rel P Ξ B S G1 st' fn.ntmps a1 w1->Below B w0 w1->e.fin P fn a1 w1 R x):
  ∀(n:Nat),(∀m,m<n->yI P L m/\ mE P (bP L 8 (exec L m))/\ yZ P (fH L (exec L m)))-> ∀(y:Code) (ly:bB) (st:St) (G:Gh) (a:Act) (w:World),aDe P I (aFv fn.results.toList) y=some ly->ly.dstOk fn.ntmps=true->
   exec L n ly st=some (e,st')->Rel P Ξ B S G st fn.ntmps a w->Below B w0 w->y.wpIn (Fx none) 0 P (bodyPostM Fence.wide 0 P fn R) a w:=by
 intro n
 induction n with
 |zero=>intro _ y ly st G a w _ _ hx;simp[exec]at hx
 |succ n ih=>
  intro hall y ly st G a w hly hdst hx hR hB;obtain⟨hE,hcall,hio⟩:=hall n (by omega)
  have hplain: ∀{ro:Option Nat},ro=none->Fx ro=Fx none:=fun h=>by rw[h]
  cases y<;>simp only[aDe,reduceCtorEq]at hly
  rename_i x y
  split at hly
  ·-- the deferred call
   rename_i ops kc hdf;obtain⟨F,f,args,l,hcf,hf,hargs,hl,rfl⟩:=aTx hly;unfold bBp at hdf
   split at hdf
   case h_2=>cases hdf
   rename_i id ops'
   split at hdf
   case h_2=>cases hdf
   rename_i o hback
   split at hdf
   case h_2=>cases hdf
   rename_i kc' hop hgd hdo;simp only[bSv,bS1]at hdf;obtain⟨rfl,rfl⟩:=hdf;simp only[bB.dstOk,bSw]at hdst;obtain⟨hd1,hd2⟩:=hdst;rw[exec]at hx
   split at hx
   case h_2=>cases hx
   rename_i st2 hpre
   split at hx
   case h_2=>cases hx
   rename_i eb st3 hbx
   split at hx
   ·cases hx
   rename_i hts;obtain⟨st4,hdfr,he⟩:=bTa.1 hx;simp only[bS1]at he;obtain⟨rfl,rfl⟩:=he;obtain⟨m1,m2⟩:=fU hl;have hne:ops'.size≠0:=by
    intro h0;have:ops'= #[]:=Array.eq_empty_of_size_eq_zero h0;rw[this]at hback;simp at hback
   have hll:l.length=ops'.size-1:=by rw[m1];simp
   have hlast:ops'[l.length]?=some o:=by rw[hll];rw[Array.back?_eq_getElem?]at hback;exact hback
   refine wpIn_seq (wpIn_region ?_)
   rw[show ops'.size=l.length+1 by omega,bV4,bVz]
   refine bFu (N:=fn.ntmps) (Ξ:=Ξ) (B:=B) (S:=S) hcall hio (l:=l) (I:=I) (fun i hi=>?_) hd1 l.length 0 st st2 G a w (by omega) hR (by simpa using hpre) fun a2 w2 G2 hR2 hb2=>?_
   ·have hi':i<ops'.size:=by omega
    refine⟨hi',?_⟩
    have:=m2 i (by simp;omega) hi
    simpa[List.getElem_dropLast]using this
   have hfv:=aY hR2 hf;obtain⟨la,va⟩:=pU hR2 hargs;cases hfn0:St.get st2.fr f with
   |fn g A Z=>?_
   |_=>rw[hfn0]at hdfr;simp[iS]at hdfr
   rw[hfn0]at hdfr hfv;obtain⟨hfr4,⟨gn,hgn,hgname,hgbody⟩,hdef⟩:=aTz hL hE hcall hio hdfr;generalize hgF:a2.eval F=uF at hfv;cases hfv with
   |fn _ _ _ p q hp hq hvp hvq=>
   let dd:Deferred:={target:= .fn (.func g) q,args:=p++kc'.args.map a2.eval};have hrun:(execOp a2.eval o).run P w2= .ok (.defer dd) w2:=by
    simp[execOp,hop,resolve,hcf,hgF,Deferred.ofValue,dd]
   have hinv: ∀W:World,(invoke (.fn (.func g) q) (p++kc'.args.map a2.eval)).run P W= .ok (.enter g (p++kc'.args.map a2.eval++q)) W:=by
    intro W;have hnm': ¬gn.name= "runtime.NumGoroutine" :=by simpa using hgname
    have hbody': ¬gn.body=none:=by intro h;rw[h]at hgbody;cases hgbody
    simp[invoke,callFunc,hgn,hnm',hbody']
   obtain⟨Ds,r1,r2,r3⟩:=hR2.marks;rw[ht,bT1]at r1;rw[wpOpsIn_cons];unfold wpOpIn;simp only[hlast];have hw:Region.wanted o (yielded ops' a2.tmps)=true:=by simp[Region.wanted,hgd]
   simp only[hw,if_true]
   refine⟨fun _ _=>trivial,?_⟩
   rw[show(Fx none).round=none from rfl,Oper.semAt_none,hrun,Oper.uponIn_defer,hdo]
   show Code.wpIn (Fx none) 0 P y (bodyPostM Fence.wide 0 P fn R) {a2 with defers:=dd::a2.defers} w2;let ΞB:Env:={prs:=fun u z=>Ξ.prs u z \/ ∃X x,aS X=some x/\ u=St.get st2.fr x/\ z=a2.eval X,ro:=Ξ.ro,rnd:=Ξ.rnd,defs:=fun D=>Ξ.defs D \/D∈Ds,tail:=dd::Ds.map mark,virt:=Ξ.virt}
   have hRB:Rel P ΞB B S G2 st2 fn.ntmps {a2 with defers:=dd::a2.defers} w2:=
    ⟨hR2.size,hR2.tmps,hR2.frame,⟨[],by simp[ΞB,r1],⟨List.nodup_nil,fun _=>rfl⟩,fun D hD=>by simp at hD⟩,hR2.ents,hR2.freshEn,hR2.freshG,hR2.own,fun u z hu=>by
     rcases hu with(hu|⟨X,x,h1,rfl,rfl⟩)|hu
     ·exact hR2.extra u z (.inl hu)
     ·exact aY hR2 h1
     ·exact hR2.extra u z (.inr hu),fun l hl=>hR2.round l hl,fun D hD=>hD.elim (hR2.defs D) fun h=>(r3 D h).2.2,hR2.virt⟩
   have hfx:Fx ΞB.ro=Fx none:=by show Fx Ξ.ro=Fx none;rw[hro]
   have hBw2:Below B w0 w2:=hB.trans hb2;rw[<-hfx]
   refine hE I fn.ntmps y st2 eb st3 ΞB B S G2 _ w2 _ 0 hd2 (fun h=>nomatch h) hRB hbx fun a3 w3 G3 x3 hx3 hR3 hb3=>?_
   obtain⟨tm,hR3',htm,htu⟩:=hR3;obtain⟨Ds3,s1,s2,s3,s4,_,hR4⟩:=hR3'.shut
   replace s1:a3.defers=Ds3.map mark++(dd::Ds.map mark):=s1
   have hres:results fn tm=results fn a3.tmps:=aRi fun t htt=>htu t (by
    cases hu:(st3.fr t).isUndef with
    |false=>rfl
    |true=>exact absurd (bVv.2 ⟨t,htt,hu⟩) (by simpa using hts))
   have hlv:LeavesInM Fence.wide 0 P fn a3.tmps R (Ds3.map mark++(dd::Ds.map mark)) (eb.mode x3) w3:=by
    refine oN Ex.mode_run Ds3 w3 s2 s3 ⟨Ex.mode_run,.inr ⟨fun h=>by simp[Fence.wide]at h,.func g,q,g,_,rfl,hinv _,fun _ _=>trivial,?_⟩⟩
    have hvals: ∀i,i<(A++args.map (St.get st2.fr)++Z).length->VR (bA B S G3 (mG w3 Ds3).heap.size) G3 (mG w3 Ds3) ((A++args.map (St.get st2.fr)++Z).getD i .dead) ((p++kc'.args.map a2.eval++q).getD i undef):=by
     have hfv4:=hR4.extra _ _ (.inl (.inr ⟨F,f,hf,rfl,rfl⟩));rw[hfn0,hgF]at hfv4;cases hfv4 with
     |fn _ _ _ _ _ hp4 hq4 hvp4 hvq4=>
     intro i hi;simp only[bSz,bTc,bVr,bVs,bTg,bV0,Array.size_map,bSy]at hi⊢;have e1:p.size=A.length:=hp;have e2:kc'.args.size=args.length:=by simp[la]
     rw[e1,e2];split
     ·split
      ·rename_i h;have:=hvp4 i h;simpa[bSz,bTc]using this
      ·have hi':i-A.length<args.length:=by omega
       have hi2:i-A.length<kc'.args.size:=by omega
       obtain⟨m3,m4⟩:=fU hargs;have hlo:=m4 (i-A.length) (by simpa using hi2) hi'
       have:=hR4.extra _ _ (.inl (.inr ⟨_,_,hlo,rfl,rfl⟩))
       simpa[bSz,bTc,hi',hi2]using this
     ·have:=hvq4 (i-(A.length+args.length)) (by omega);simpa[bSz,bTc]using this
    refine CallsDIn.mono (hdef ΞB B S G3 fn.ntmps _ (mG w3 Ds3) _ x3 (0-1) hx3 hR4 (by simp[hp,hq,la]) hvals) ?_
    rintro ed u' w5 ⟨G5,y5,rfl,hset,hR5,hb5⟩
    simp only[hset];have hR6:Rel P Ξ B S G5 st4 fn.ntmps {tmps:=tm,defers:=Ds.map mark} w5:=
     ⟨hR5.size,hR5.tmps,hR5.frame,⟨Ds,by simp[ht],r2,fun D hD=>⟨(r3 D hD).1,(r3 D hD).2.1,hR5.defs D (.inr hD)⟩⟩,hR5.ents,hR5.freshEn,hR5.freshG,hR5.own,fun u z hu=>hR5.extra u z (hu.imp_left .inl),fun l hl=>hR5.round l hl,fun D hD=>hR5.defs D (.inl hD),hR5.virt⟩
    obtain⟨Ds6,v1,v2,v3,v4,_,hR7⟩:=hR6.shut
    replace v1:Ds.map mark=Ds6.map mark++Ξ.tail:=v1
    have hfin:=k _ _ _ undef trivial ht hR7 ((((hBw2.trans hb3).trans (aAq Ds3 w3 s4)).trans hb5).trans (aAq Ds6 w5 v4));obtain⟨yy,hyy,hRy⟩:=hfin;rw[v1,ht]
    refine oN (by simp) Ds6 w5 v2 v3 ?_
    exact⟨yy,by rw[<-hres];exact hyy,hRy⟩
   rw[<-s1]at hlv;cases eb with
   |normal=>exact hlv
   |ret=>exact hlv
   |panic v=>exact hlv
   |exit id=>simp[iS,Ex.rcvd]at hdfr;split at hdfr<;>(try split at hdfr)<;>simp at hdfr
  ·split at hly
   case h_2=>cases hly
   rename_i ly' hly';simp only[bSv]at hly;subst hly;simp only[bB.dstOk,bSw]at hdst;rw[exec]at hx
   refine wpIn_seq ?_
   cases h1:exec L n (cK P I x) st with
   |none=>rw[h1]at hx;cases hx
   |some pr=>
    obtain⟨e1,s1⟩:=pr;rw[h1]at hx;have hfx:Fx Ξ.ro=Fx none:=by rw[hro]
    rw[<-hfx]
    refine hE I fn.ntmps x st e1 s1 Ξ B S G a w _ 0 hdst.1 (fun h=>by rw[hnm]at h;cases h) hR h1 fun a1 w1 G1 x1 hx1 hR1 hb1=>?_
    cases e1 with
    |normal=>
     rw[hfx];exact ih (fun m hm=>hall m (by omega)) y ly' s1 G1 a1 w1 hly' hdst.2 hx (hR1.rel rfl) (hB.trans hb1)
    |exit id=>simp only[bSv,bS1]at hx;obtain⟨rfl,rfl⟩:=hx;exact aDm (m:=0) ht hx1 hR1 (hB.trans hb1) k
    |ret=>simp only[bSv,bS1]at hx;obtain⟨rfl,rfl⟩:=hx;exact aDm (m:=0) ht hx1 hR1 (hB.trans hb1) k
    |panic v=>simp only[bSv,bS1]at hx;obtain⟨rfl,rfl⟩:=hx;exact aDm (m:=0) ht hx1 hR1 (hB.trans hb1) k
theorem bLf {L:bH}(hL:rA P L)(hE:yI P L n)(hall: ∀m,m<n->yI P L m/\ mE P (bP L 8 (exec L m))/\ yZ P (fH L (exec L m))):aH4 P L n:=by
 intro f fn lf I keep amb e st0 st' Ξ B S G vals w R hfn hlow hx hro ht hnm hR0 k;obtain⟨c,hbody,hlb,hdst,hnp,hname,hres⟩:=zA hlow;have hfx:Fx Ξ.ro=Fx none:=by rw[hro]
 refine callsIn_wide.1 (callsIn_of_wp_marks (F:=Fence.wide) (n:=0) hfn hbody trivial ?_)
 simp only[aFw]at hlb
 split at hlb
 ·rename_i lc hrc;simp only[bSv]at hlb;subst hlb
  exfalso
  unfold aWd at hrc
  split at hrc
  case h_2=>cases hrc
  split at hrc
  case h_2=>cases hrc
  split at hrc
  case isFalse=>cases hrc
  obtain⟨l',_,he⟩:=bTa.1 hrc;rw[<-he]at hx;cases n<;>simp[exec]at hx
 ·split at hlb
  ·rename_i lc hlt;simp only[bSv]at hlb;subst hlb;exact bFv hL hro ht hnm k n hall c _ st0 G _ w hlt hdst hx hR0 (Below.refl _ _)
  ·split at hlb
   ·cases hlb
   simp only[bSv]at hlb;rw[<-hlb]at hx hdst;have:=hE I fn.ntmps c st0 e st' Ξ B S G _ w (bodyPostM Fence.wide 0 P fn R) 0 hdst (fun h=>by rw[hnm]at h;cases h) hR0 hx fun a1 w1 G1 x hxv hR1 hb=>aDm ht hxv hR1 hb k
   rw[hfx]at this;exact this
theorem aH8 {L:bH}(hL:rA P L){k:Nat}(ih:aH4 P L n):mE P (bP L k (exec L n)):=by
 intro f args r h;simp only[bP]at h
 split at h
 ·cases h
 rename_i lf hlf
 split at h
 case isFalse=>cases h
 rename_i hlen
 split at h
 ·rename_i ha;obtain⟨e1,c1⟩:=aTv hL ih hlf hlen ha h;exact⟨e1,fun S w vals hS hgl hvl hv=>c1 _ _ S w vals hS hgl hvl hv⟩
 ·exact aH5 hL ih hlf hlen h
theorem aZu (hm:P.follows .mixedOrders=true){L:bH}(hL:rA P L): ∀n,yI P L n/\ aH4 P L n:=by
 intro n
 induction n using Nat.strongRecOn with
 |ind n ih=>
  have hE:yI P L n:=by
   match n,ih with
   |0,_=>intro I N c st e st' Ξ B S G a w Q m _ _ _ hx;simp[exec]at hx
   |n+1,ih=>exact aZt hm hL (aH8 hL (ih n (by omega)).2) (ih n (by omega)).2 fun m hm'=>(ih m (by omega)).1
  exact⟨hE,bLf hL hE fun m hm'=>⟨(ih m hm').1,aH8 hL (ih m hm').2,bCh hL (ih m hm').2 (ih m hm').1⟩⟩
theorem aT0 (hm:P.follows .mixedOrders=true){L:bH}(hL:rA P L)(n:Nat):mE P (mB L n):=aH8 hL (aZu hm hL n).2
end Go.Abs
namespace Go.Abs
variable [Inhabited nO]
@[reducible] def o (d:Nat)(op:LOp):aN:=⟨some d,op,none⟩
@[reducible] def og (d t:Nat)(b:Bool)(op:LOp):aN:=⟨some d,op,some (t,b)⟩
@[reducible] def on (op:LOp):aN:=⟨none,op,none⟩
@[reducible] def ong (t:Nat)(b:Bool)(op:LOp):aN:=⟨none,op,some (t,b)⟩
@[reducible] def cI (n:Int):Opd:= .c (.int .i64 n)
@[reducible] def cB (b:Bool):Opd:= .c (.bool b)
@[reducible] def mT (d x:Nat):aN:=⟨some d,.mv (.t x),none⟩
@[reducible] def mC (d:Nat)(v:Val):aN:=⟨some d,.mv (.c v),none⟩
@[reducible] def fA (d k x:Nat):aN:=⟨some d,.fa k (.t x),none⟩
@[reducible] def l1 (d x:Nat):aN:=⟨some d,.load false 1 (.t x),none⟩
@[reducible] def lT (d n x:Nat):aN:=⟨some d,.load true n (.t x),none⟩
@[reducible] def bN (d:Nat)(op:BinOp)(x y:Opd):aN:=⟨some d,.bin op .num x y,none⟩
@[reducible] def pO (d c x:Nat):aN:=⟨some d,.pick (.t c) (.c (.bool true)) (.t x),none⟩
@[reducible] def pA (d c x:Nat):aN:=⟨some d,.pick (.t c) (.t x) (.c (.bool false)),none⟩
@[reducible] def cL (d f:Nat)(args:List Opd):aN:=⟨some d,.call (.f f) args,none⟩
@[reducible] def lN (d x:Nat):aN:=⟨some d,.len .slice (.t x),none⟩
@[reducible] def bX (d n x:Nat):aN:=⟨some d,.box n (.t x),none⟩
@[reducible] def iA (d s x i:Nat):aN:=⟨some d,.ia s (.t x) (.t i),none⟩
@[reducible] def nK (d x:Nat):aN:=⟨some d,.nilck (.t x),none⟩
@[reducible] def nT (d x:Nat):aN:=⟨some d,.un .not (.t x),none⟩
@[reducible] def sT (n a x:Nat):aN:=⟨none,.store n (.t a) (.t x),none⟩
@[reducible] def gM (d t:Nat)(b:Bool)(x:Nat):aN:=⟨some d,.mv (.t x),some (t,b)⟩
@[reducible] def gF (d t:Nat)(b:Bool)(k x:Nat):aN:=⟨some d,.fa k (.t x),some (t,b)⟩
@[reducible] def g1 (d t:Nat)(b:Bool)(x:Nat):aN:=⟨some d,.load false 1 (.t x),some (t,b)⟩
@[reducible] def gT (d t:Nat)(b:Bool)(n x:Nat):aN:=⟨some d,.load true n (.t x),some (t,b)⟩
@[reducible] def gN (d t:Nat)(b:Bool)(x:Nat):aN:=⟨some d,.len .slice (.t x),some (t,b)⟩
@[reducible] def gL (d t:Nat)(b:Bool)(f:Nat)(args:List Opd):aN:=⟨some d,.call (.f f) args,some (t,b)⟩
@[reducible] def gB (d t:Nat)(b:Bool)(op:BinOp)(x y:Opd):aN:=⟨some d,.bin op .num x y,some (t,b)⟩
structure bSr where
 inl:List Nat:=[]
 pan:List Int:=[]
 dyn:Bool:=false
 keep:Bool:=false
 amb:Bool:=false
def bCj (P:Program)(cfg:Nat->(Operand->Bool)×Bool×Bool):bH:=fun n=>match P.funcs[n]? with
 |some fn=>pN P (cfg n).1 (cfg n).2.1 (cfg n).2.2 fn
 |none=>none
theorem bFw {P:Program}{cfg:Nat->(Operand->Bool)×Bool×Bool}{n:Nat}{fn:Func}(h:P.funcs[n]?=some fn):bCj P cfg n=pN P (cfg n).1 (cfg n).2.1 (cfg n).2.2 fn:=by simp only[bCj,h]
theorem bFx (P:Program)(cfg:Nat->(Operand->Bool)×Bool×Bool):rA P (bCj P cfg):=by
 intro f lf h;simp only[bCj]at h
 split at h
 ·rename_i fn hf;exact⟨fn,(cfg f).1,(cfg f).2.1,(cfg f).2.2,hf,h⟩
 ·cases h
end Go.Abs
namespace Go.Abs
open Go.RowKit Go.WideShapes Go.ChangeShapes Go.ChangeAt
variable [Inhabited nO]
variable {H :Type}{enc:TypeId×Value->H}{P:Program}
theorem aF6 (hl:laidOutB P=true){W W':World}(hb:Below W.heap.size W W'){sp:Nat->Bool}: ∀{ts:List TypeId} {vs:List Value} {ds:List (DataW H)} {ps:List MemPlace},(∀t∈ts,P.readableRec t=true/\ t<P.types.size)->
  DataW.TrodAll enc P W 0 (fun _=>true) true ts vs ds ps->(∀x∈ps,x.block<W.heap.size)->(∀x∈ps,sp x.block=true)->DataW.TrodAll enc P W' 0 sp true ts vs ds ps
 |[],[],[],ps,_,h,_,_=>h
 |t::ts,v::vs,d::ds,ps,hr,h,hlt,hsp=>by
  obtain⟨p,q,h1,h2,rfl⟩:=h
  refine⟨p,q,WideElems.Trod_stays hl (hr t (by simp)).1 (hr t (by simp)).2 h1 (fun x hx=>hb.same (hlt x (bVb _ hx))) (fun x hx=>hsp x (bVb _ hx)),
   aF6 hl hb (fun t ht=>hr t (bU4 _ ht)) h2 (fun x hx=>hlt x (bUn _ hx)) (fun x hx=>hsp x (bUn _ hx)),rfl⟩
 |[],_::_,_,_,_,h,_,_=>h.elim
 |[],[],_::_,_,_,h,_,_=>h.elim
 |_::_,[],_,_,_,h,_,_=>h.elim
 |_::_,_::_,[],_,_,h,_,_=>h.elim
theorem aF7 {f:Func}{s:ChangeSpec}{apart fresh handsOn again:Bool}{W W':World}{args:Array Value}{ds gs:List (DataW H)}{before:List MemPlace}{bt:TypeId}
  (hW:DataW.Whole enc P f.params.toList s.vars apart W args.toList ds gs before) (hvars:s.vars=[]) (hres:f.resultTypes= #[bt]) (hbt:P.underlying bt=some .bool)
  (hfn:s.fn H (ds++gs)={results:=[.lit (.bool true)],args:=ds}) (hl:laidOutB P=true) (hr: ∀t∈f.params.toList,P.readableRec t=true/\ t<P.types.size) (hb:Below W.heap.size W W'):
  s.post enc P f apart fresh handsOn again W args (.bool true) W':=by
 have hlt: ∀x∈before,x.block<W.heap.size:=fun x hx=>hW.lt x hx
 obtain⟨p,q,hA,hV,hbq,hz,hn⟩:=hW;rw[hvars]at hV;obtain⟨rfl,rfl⟩:=trodVars_none hV;have hbp:before=p:=by simpa using hbq
 subst hbp;have harg: ∀sp:Nat->Bool,(∀x∈before,sp x.block=true)->DataW.TrodAll enc P W' 0 sp true f.params.toList args.toList ds before:=fun sp hsp=>aF6 hl hb hr hA hlt hsp
 have hresult: ∀(b:Nat) (sp:Nat->Bool) (hd:Bool),DataW.TrodAll enc P W' b sp hd f.resultTypes.toList ((Value.bool true).resultList f.resultTypes.size) [.lit (.bool true)] []:=by
  intro b sp hd;rw[hres];exact trodAll_cons_mk (shut_bool hbt _) trodAll_mk0
 have hvar: ∀sp:Nat->Bool,DataW.TrodVars enc P W' sp s.vars (s.fn H (ds++[])).vars []:=by
  intro sp;rw[hvars,hfn];exact rfl
 refine⟨ds,[],before,[],before,[],⟨before,[],hA,by rw[hvars];exact hV,by simp,hz,hn⟩,by rw[hfn];exact hresult _ _ _,by rw[hfn];exact harg _ (fun x hx=>by simpa using hlt x hx),hvar _,
  World.keptBut_mono (fun x hx=>⟨hx,.inr (by simpa using hx)⟩) (hb.frame (· ∈before)),fun _=>?_⟩
 refine⟨ok_one hres rfl (okWide_bool_mk hbt _),_,_,([]++before)++[],⟨[]++before,[],trodAll_append (harg _ (fun _ _=>rfl)) (hresult _ _ _),hvar _,rfl,fun b off hx=>?_,fun ha=>by simpa using hn ha⟩,fun x hx _=>by simpa using hx⟩
 have hin:MemPlace.cell b off∈before:=by simpa using hx
 rw[hb.frozen (hlt _ hin)];exact hz b off hin
theorem aAr {L:bH}(hm:P.follows .mixedOrders=true)(hL:rA P L){f n:Nat}{args:List Val}(h:mB L n f args=some (.bool true)){S:Nat->Nat->Prop}{w:World}{vals:Array Value}(hS: ∀b o,S b o->b<w.heap.size)(hg:vN S w)
  (hn:vals.size=args.length) (hv: ∀i,i<args.length->VR S Gh.none w (args.getD i .dead) (vals.getD i undef)):Calls P f vals w fun e w'=>e= .returned (.bool true)/\ Below w.heap.size w w':=by
 refine Calls.mono ((aT0 hm hL n f args _ h).2 S w vals hS hg hn hv) ?_
 rintro e w' ⟨v,rfl,hb,hr⟩
 have hr':VR (aF3 w S w') Gh.none w' (.bool true) v:=hr;cases hr';exact⟨rfl,hb⟩
end Go.Abs
namespace Go.Abs
def aRj (P:Program):Nat->List TypeId->List TypeId
 |0,s=>s
 |d+1,s=>if P.grow s==s then s else aRj P d (P.grow s)
theorem aPp {P:Program}{s:List TypeId}(h:P.grow s=s): ∀d,P.grown d s=s
 |0=>rfl
 |d+1=>by rw[Program.grown,h];exact aPp h d
theorem aPq (P:Program): ∀(d:Nat) (s:List TypeId),P.grown d s=aRj P d s
 |0,s=>rfl
 |d+1,s=>by
  rw[aRj]
  by_cases h:(P.grow s==s)=true
  ·rw[if_pos h];exact aPp (eq_of_beq h) _
  ·rw[if_neg h,Program.grown];exact aPq P d _
theorem aRk (P:Program)(t:TypeId):P.book t=aRj P P.types.size [t]:=aPq P _ _
def CLe (c c':bE):Prop:= ∀f a r,c f a=some r->c' f a=some r
def ILe (i j:Inl):Prop:=(∀f a s r,i.fn f a s=some r->j.fn f a s=some r)/\ ∀k a s r,i.yld k a s=some r->j.yld k a s=some r
def XLe (x y:bB->St->Option (Ex×St)):Prop:= ∀c s r,x c s=some r->y c s=some r
variable {c':bE}{d g me:Nat}{en:En}{get:Opd->Val}{op:LOp}
theorem aZv {n:Nat}{c:bE}(h:CLe c c'){r:Res}(he:eval n c me d g en get op=some r):eval n c' me d g en get op=some r:=by
 by_cases hc: ∃f args,op= .call f args
 ·obtain⟨f,args,rfl⟩:=hc;simp only[eval]at he⊢
  split at he
  case h_2=>cases he
  split at he
  case h_2=>cases he
  split at he
  case h_2=>cases he
  rename_i hv;rw[h _ _ _ hv];exact he
 ·cases op<;>first|exact absurd ⟨_,_,rfl⟩ hc|exact he
variable {a:List Val}
theorem aRl {i j:Inl}(h:ILe i j){f:Val}{s:St}{r:Val×St}(he:i.call f a s=some r):j.call f a s=some r:=by
 cases f<;>simp only[Inl.call,reduceCtorEq]at he⊢
 ·exact h.1 _ _ _ _ he
 ·exact h.2 _ _ _ _ he
variable {st:St}
theorem aDn {n:Nat}{c:bE}{i j:Inl}(hc:CLe c c')(hi:ILe i j){o:aN}{r:St×Res}(h:step n c i 0 st o=some r):step n c' j 0 st o=some r:=by
 obtain⟨dst,op,g⟩:=o;simp only[step]at h⊢
 split at h
 ·exact h
 ·cases op with
  |icall f args=>
   simp only at h⊢
   split at h
   case h_2=>cases h
   rename_i hv;rw[aRl hi hv];exact h
  |_=>
   simp only at h⊢
   split at h
   case h_2=>cases h
   rename_i hv;rw[aZv hc hv];exact h
 ·cases h
theorem xQ {n:Nat}{c c':bE}{i j:Inl}(hc:CLe c c')(hi:ILe i j): ∀(l:List aN) {st r:St},gY n c i 0 l st=some r->gY n c' j 0 l st=some r
 |[],_,_,h=>h
 |o::l,st,r,h=>by
  simp only[gY]at h⊢
  split at h
  case h_2=>cases h
  rename_i hs;rw[aDn hc hi hs];exact xQ hc hi l h
theorem qI {n:Nat}{c c':bE}{i j:Inl}(hc:CLe c c')(hi:ILe i j): ∀(l:List aN) {st:St} {r:St×List Res},jP n c i 0 l st=some r->jP n c' j 0 l st=some r
 |[],_,_,h=>h
 |o::l,st,r,h=>by
  simp only[jP]at h⊢
  split at h
  case h_2=>cases h
  rename_i hs;rw[aDn hc hi hs]
  split at h
  case h_2=>cases h
  rename_i hr;simp only[qI hc hi l hr];exact h
variable {lf:fR}{r:Val}{y:bB->St->Option (Ex×St)}
theorem zC {x:bB->St->Option (Ex×St)}(h:XLe x y){n:Nat}(hb:jN lf n x a=some r):jN lf n y a=some r:=by
 simp only[jN]at hb⊢
 split at hb
 case h_2=>cases hb
 rename_i hx;rw[h _ _ _ hx];exact hb
theorem aPr {a b a' b':Option Val}(ha: ∀r,a=some r->a'=some r)(hb: ∀r,b=some r->b'=some r)(h:kL a b=some r):kL a' b'=some r:=by
 unfold kL at h
 split at h<;>first|(cases h;done)|(rw[ha _ rfl,hb _ rfl];exact h)
theorem zD {L:bH}{x:bB->St->Option (Ex×St)}(h:XLe x y){n:Nat}:CLe (bP L n x) (bP L n y):=by
 intro f a r hc;simp only[bP]at hc⊢
 split at hc
 ·cases hc
 split at hc
 case isFalse=>cases hc
 rename_i hl;rw[if_pos hl]
 split at hc
 ·rename_i ha;rw[if_pos ha];exact aPr (fun _=>zC h) (fun _=>zC h) hc
 ·rename_i ha;rw[if_neg ha];exact zC h hc
variable {f:Nat}
theorem aZw {L:bH}{x:bB->St->Option (Ex×St)}(h:XLe x y){s:St}{r:Val×St}(hc:lL L x f a s=some r):lL L y f a s=some r:=by
 simp only[lL]at hc⊢
 split at hc
 ·cases hc
 split at hc
 case isFalse=>cases hc
 rename_i hl;rw[if_pos hl]
 split at hc
 ·rename_i ha;rw[if_pos ha];obtain⟨v,hv,rfl⟩:=bTa.1 hc;rw[aPr (fun _=>zC h) (fun _=>zC h) hv];rfl
 ·rename_i ha;rw[if_neg ha]
  split at hc
  case h_2=>cases hc
  rename_i hx;rw[h _ _ _ hx];exact hc
theorem zE {L:bH}{x:bB->St->Option (Ex×St)}(h:XLe x y):ILe (fH L x) (fH L y):=by
 refine⟨fun f a s r hc=>?_,fun k a s r hc=>?_⟩
 ·simp only[fH,aBy]at hc⊢
  split at hc
  case h_2=>cases hc
  rename_i hx;rw[aZw h hx];exact hc
 ·simp only[fH,aFq]at hc⊢
  split at hc
  case h_2=>cases hc
  split at hc
  case isFalse=>cases hc
  rename_i hl;rw[if_pos hl]
  split at hc
  case h_2=>cases hc
  rename_i hx;rw[h _ _ _ hx]
  split at hc
  case h_2=>cases hc
  rename_i hk;simp only[hk]
  split at hc
  case h_2=>cases hc
  rename_i hx2;simp only[h _ _ _ hx2];exact hc
theorem aT1 {L:bH}{x:bB->St->Option (Ex×St)}(h:XLe x y):CLe (cT L x) (cT L y):=by
 intro f a r hc;simp only[cT]at hc⊢
 split at hc
 ·cases hc
 split at hc
 case isFalse=>cases hc
 rename_i hl;rw[if_pos hl]
 split at hc
 case h_2=>cases hc
 rename_i hx;simp only[h _ _ _ hx];exact hc
theorem aT2 {L:bH}{x:bB->St->Option (Ex×St)}(h:XLe x y){s:St}{r:Val×St}(hc:eL L x f a s=some r):eL L y f a s=some r:=by
 simp only[eL]at hc⊢
 split at hc
 ·cases hc
 split at hc
 case isFalse=>cases hc
 rename_i hl;rw[if_pos hl]
 split at hc
 case h_2=>cases hc
 rename_i hx;simp only[h _ _ _ hx];exact hc
variable {v:Val}
theorem bCk {L:bH}{x:bB->St->Option (Ex×St)}{n:Nat}(h:cT L x f a=some v):bP L n x f a=none:=by
 simp only[cT]at h
 split at h
 ·cases h
 rename_i lf hlf
 split at h
 case isFalse=>cases h
 rename_i hl
 split at h
 case h_2=>cases h
 rename_i hx;simp only[bP,hlf,hl.1,hl.2,if_true,bS0,if_false,jN,hx,Ex.ends]
theorem aYc {L:bH}{x:bB->St->Option (Ex×St)}{s:St}{r:Val×St}(h:eL L x f a s=some r):lL L x f a s=none:=by
 simp only[eL]at h
 split at h
 ·cases h
 rename_i lf hlf
 split at h
 case isFalse=>cases h
 rename_i hl
 split at h
 case h_2=>cases h
 rename_i hx;simp only[lL,hlf,hl.1,hl.2,if_true,bS0,if_false,hx,Ex.ends]
theorem bCl {L:bH}{x:bB->St->Option (Ex×St)}{s:St}{r:Val×St}(h:eL L x f a s=some r):aBy L x f a s=none:=by
 simp only[aBy,aYc h]
theorem aB8 {L:bH}{x:bB->St->Option (Ex×St)}{n k:Nat}{o:aN}{r:Val×St}(h:eB n (cT L x) (eL L x) st o=some r):step n (bP L k x) (fH L x) 0 st o=none:=by
 obtain⟨dst,op,g⟩:=o;simp only[eB]at h
 split at h
 case h_2=>cases h
 rename_i hw;simp only[step,hw];cases op with
 |panic y=>simp[eval]
 |call f args=>
  simp only at h⊢
  split at h
  case h_2=>cases h
  rename_i hf
  split at h
  case h_2=>cases h
  rename_i hs;obtain⟨v,hv,rfl⟩:=bTa.1 h;simp only[eval,hf,hs,bCk hv]
 |icall f args=>
  simp only at h⊢
  split at h
  case h_2=>cases h
  rename_i hf
  split at h
  case h_2=>cases h
  rename_i hv;simp only[hf,Inl.call,fH,aBy,aYc hv]
 |_=>simp at h
variable {p:bE}
theorem uI {L:bH}{x:bB->St->Option (Ex×St)}(hx:XLe x y)(hp:CLe p (cT L y)){n:Nat}{o:aN}{r:Val×St}(h:eB n p (eL L x) st o=some r):eB n (cT L y) (eL L y) st o=some r:=by
 obtain⟨dst,op,g⟩:=o;simp only[eB]at h⊢
 split at h
 case h_2=>cases h
 rename_i hw;cases op with
 |call f args=>
  simp only at h⊢
  split at h
  case h_2=>cases h
  split at h
  case h_2=>cases h
  obtain⟨v,hv,rfl⟩:=bTa.1 h;simp only[hp _ _ _ hv,bTr]
 |icall f args=>
  simp only at h⊢
  split at h
  case h_2=>cases h
  split at h
  case h_2=>cases h
  rename_i hv;rw[aT2 hx hv];exact h
 |_=>exact h
theorem aPs {L:bH}{x y:bB->St->Option (Ex×St)}{c p:bE}{k:Nat}(hx:XLe x y)(hc:CLe c (bP L k y))(hp:CLe p (cT L y)){n:Nat}: ∀(l:List aN) {st:St} {r:Ex×St},
  aFr n c (fH L x) p (eL L x) l st=some r->aFr n (bP L k y) (fH L y) (cT L y) (eL L y) l st=some r
 |[],_,_,h=>h
 |o::l,st,r,h=>by
  simp only[aFr]at h⊢
  split at h
  ·rename_i hq;simp only[uI hx hp hq];exact h
  ·split at h
   case h_2=>cases h
   rename_i hs;have hs':=aDn hc (zE hx (L:=L)) hs;have hn:eB n (cT L y) (eL L y) st o=none:=by
    cases hq:eB n (cT L y) (eL L y) st o with
    |none=>rfl
    |some q=>rw[aB8 hq]at hs';cases hs'
   simp only[hn,hs'];exact aPs hx hc hp l h
variable {args:List Val}
theorem aW1 {L:bH}{x:bB->St->Option (Ex×St)}(hx:XLe x y){f:Val}{e:Ex}{st':St}(h:iS L x f args e st=some st'):iS L y f args e st=some st':=by
 unfold iS at h⊢
 split at h
 case h_2=>cases h
 split at h
 case h_2=>cases h
 split at h
 case h_2=>cases h
 split at h
 case isFalse=>cases h
 rename_i hc
 split at h
 case h_2=>cases h
 rename_i ho
 split at h
 case h_2=>cases h
 rename_i hb;simp only[if_pos hc,xQ (zD hx (L:=L) (n:=8)) (zE hx (L:=L)) _ ho,hx _ _ _ hb];exact h
theorem aEz {L:bH}{x y:bB->St->Option (Ex×St)}{c p:bE}{k:Nat}(hx:XLe x y)(hc:CLe c (bP L k y))(hp:CLe p (cT L y)){n:Nat}: ∀(l:List aN) {i j:Nat} {st:St},
  qU n c (fH L x) p (eL L x) l i st=some j->qU n (bP L k y) (fH L y) (cT L y) (eL L y) l i st=some j
 |[],_,_,_,h=>h
 |o::l,i,j,st,h=>by
  simp only[qU]at h⊢
  split at h
  ·rename_i hq;simp only[uI hx hp hq];exact h
  ·split at h
   case h_2=>cases h
   rename_i hs;have hs':=aDn hc (zE hx (L:=L)) hs;have hn:eB n (cT L y) (eL L y) st o=none:=by
    cases hq:eB n (cT L y) (eL L y) st o with
    |none=>rfl
    |some q=>rw[aB8 hq]at hs';cases hs'
   simp only[hn,hs'];exact aEz hx hc hp l h
theorem wB {L:bH}{x:bB->St->Option (Ex×St)}{n k:Nat}: ∀(l:List aN) {i:Nat} {st:St} {r:St×List Res},
  jP n (bP L k x) (fH L x) 0 l st=some r->qU n (bP L k x) (fH L x) (cT L x) (eL L x) l i st=none
 |[],_,_,_,_=>rfl
 |o::l,i,st,r,h=>by
  simp only[jP]at h
  split at h
  case h_2=>cases h
  rename_i hs
  split at h
  case h_2=>cases h
  rename_i hr;have hn:eB n (cT L x) (eL L x) st o=none:=by
   cases hq:eB n (cT L x) (eL L x) st o with
   |none=>rfl
   |some q=>rw[aB8 hq]at hs;cases hs
  simp only[qU,hn,hs];exact wB l hr
variable {an:List (List Nat)}{j:Nat}{l:List aN}
theorem aRm {L:bH}{x:bB->St->Option (Ex×St)}{c:bE}{k:Nat}(hx:XLe x y)(hc:CLe c (bP L k y))(hp:CLe p (cT L y)){n:Nat}{ps:List (Nat×Nat)}{r:Ex×St}
  (h:xM n c (fH L x) p (eL L x) l an ps j st=some r):xM n (bP L k y) (fH L y) (cT L y) (eL L y) l an ps j st=some r:=by
 simp only[xM]at h⊢
 split at h
 case h_2=>cases h
 rename_i hr;rw[qI hc (zE hx (L:=L)) _ hr]
 simp only
 split at h
 case isFalse=>cases h
 rename_i hk;rw[if_pos hk]
 split at h
 case h_2=>cases h
 rename_i hq;simp only[uI hx hp hq];exact h
variable {ps:List Nat}
theorem aW2 {L:bH}{x:bB->St->Option (Ex×St)}(h:XLe x y){g:Val}{a b:bB}{r:Ex×St}(hr:oJ L x g ps a b st=some r):oJ L y g ps a b st=some r:=by
 unfold oJ at hr⊢
 split at hr
 case h_2=>cases hr
 simp only at hr⊢
 split at hr
 ·rename_i hx;have:=(zE h (L:=L)).1 _ _ _ _ hx;simp only[fH]at this;rw[this];exact hr
 ·split at hr
  case h_2=>cases hr
  rename_i hx;have:=aT2 h (L:=L) hx;simp only[bCl this,this];exact hr
def uD (L:bH)(x:bB->St->Option (Ex×St))(ca p:bE)(c:bB)(st:St):Option (Ex×St):=
 let i:=fH L x
 match c with
 | .skip=>some (.normal,st)
 | .ops l=>(gY 8 ca i 0 l st).map fun st=>(.normal,st)
 | .draw l ps=>match jP 8 ca i 0 l st with
  |some (st',rs)=>if dV rs ps then some (.normal,st')else none
  |none=>none
 | .seq a b=>match x a st with
  |some (.normal,st')=>x b st'
  |r=>r
 | .cond z a b=>match St.get st.fr z with
  | .bool true=>x a st
  | .bool false=>x b st
  |_=>none
 | .block id b=>match x b st with
  |some (.exit id',st')=>if id'=id then some (.normal,st')else some (.exit id',st')
  |r=>r
 | .loop b=>match x b st with
  |some (.normal,st')=>x (.loop b) st'
  |r=>r
 | .exit id=>some (.exit id,st)
 | .ret=>some (.ret,st)
 | .rangeF g ps a b=>oJ L x (St.get st.fr g) ps a b st
 | .opsP l=>aFr 8 ca i p (eL L x) l st
 | .dfr ts l f args b=>match gY 8 ca i 0 l st with
  |some st2=>match x b st2 with
   |some (e,st3)=>if ts.any (fun t=>(st3.fr t).isUndef)then none else(iS L x (St.get st2.fr f) (args.map (St.get st2.fr)) e st3).map fun st4=>(.ret,st4)
   |none=>none
  |none=>none
 | .rcv _ _ _=>none
 | .drawP l an ps=>match qU 8 ca i p (eL L x) l 0 st with
  |some j=>xM 8 ca i p (eL L x) l an ps j st
  |none=>match jP 8 ca i 0 l st with
   |some (st',rs)=>if dV rs ps then some (.normal,st')else none
   |none=>none
 | .drawL l an ps A=>yV 8 ca i p (eL L x) (jS A (iZ st (l.getD A default)) l) an ps A (iZ st (l.getD A default)) (xN (iZ st (l.getD A default)) (aPd (l.getD A default).op) st)
theorem aH9 (L:bH)(n:Nat):exec L (n+1)=uD L (exec L n) (bP L 8 (exec L n)) (cT L (exec L n)):=by
 funext c st
 cases c<;>rfl
theorem aYd {L:bH}{x:bB->St->Option (Ex×St)}{ca:bE}(ih:XLe x y)(hc:CLe ca (bP L 8 y))(hp:CLe p (cT L y)):XLe (uD L x ca p) (uD L y (bP L 8 y) (cT L y)):=by
 intro c s r h;have hi:=zE ih (L:=L);cases c with
 |skip=>exact h
 |ops l=>
  simp only[uD]at h⊢;obtain⟨st,hs,rfl⟩:=bTa.1 h;rw[xQ hc hi l hs];rfl
 |draw l ps=>
  simp only[uD]at h⊢
  split at h
  case h_2=>cases h
  rename_i hs;rw[qI hc hi l hs];exact h
 |seq a b=>
  simp only[uD]at h⊢;cases hx:x a s with
  |none=>rw[hx]at h;cases h
  |some p=>
   obtain⟨e,st⟩:=p;rw[hx]at h;rw[ih _ _ _ hx];cases e with
   |normal=>exact ih _ _ _ h
   |exit i=>exact h
   |ret=>exact h
   |panic v=>exact h
 |cond z a b=>
  simp only[uD]at h⊢
  split at h
  ·exact ih _ _ _ h
  ·exact ih _ _ _ h
  ·cases h
 |block id b=>
  simp only[uD]at h⊢;cases hx:x b s with
  |none=>rw[hx]at h;cases h
  |some p=>
   obtain⟨e,st⟩:=p;rw[hx]at h;rw[ih _ _ _ hx];exact h
 |loop b=>
  simp only[uD]at h⊢;cases hx:x b s with
  |none=>rw[hx]at h;cases h
  |some p=>
   obtain⟨e,st⟩:=p;rw[hx]at h;rw[ih _ _ _ hx];cases e with
   |normal=>exact ih _ _ _ h
   |exit i=>exact h
   |ret=>exact h
   |panic v=>exact h
 |exit i=>exact h
 |ret=>exact h
 |rangeF g ps a b=>
  simp only[uD]at h⊢;exact aW2 ih h
 |opsP l=>
  simp only[uD]at h⊢;exact aPs ih hc hp l h
 |rcv d l b=>simp[uD]at h
 |drawP l an ps=>
  simp only[uD]at h⊢
  split at h
  ·rename_i hf;simp only[aEz ih hc hp l hf];exact aRm ih hc hp h
  ·split at h
   case h_2=>cases h
   rename_i hr;have hr':=qI hc hi l hr;simp only[wB (x:=y) l hr',hr'];exact h
 |drawL l an ps A=>
  simp only[uD]at h⊢;unfold yV at h⊢
  split at h
  ·rename_i hf;simp only[aEz ih hc hp _ hf]
   split at h
   case h_2=>cases h
   rename_i hr;rw[qI hc hi _ hr]
   simp only
   split at h
   case isFalse=>cases h
   rename_i hck;rw[if_pos hck]
   split at h
   case h_2=>cases h
   rename_i hq;simp only[uI ih hp hq];exact h
  ·split at h
   case h_2=>cases h
   rename_i hr;have hr':=qI hc hi _ hr;simp only[wB (x:=y) _ hr',hr'];exact h
 |dfr ts l f args b=>
  simp only[uD]at h⊢
  split at h
  case h_2=>cases h
  rename_i hr;simp only[xQ hc hi l hr]
  split at h
  case h_2=>cases h
  rename_i hb;simp only[ih _ _ _ hb]
  split at h
  ·cases h
  rename_i hts;rw[if_neg hts];obtain⟨q,hq,rfl⟩:=bTa.1 h;rw[aW1 ih hq];rfl
theorem aZx (L:bH): ∀n,XLe (exec L n) (exec L (n+1)):=by
 intro n
 induction n with
 |zero=>intro c s r h;simp[exec]at h
 |succ n ih=>rw[aH9,aH9];exact aYd ih (zD ih) (aT1 ih)
variable {m:Nat}
theorem bFy (L:bH){n:Nat}(h:n<=m):XLe (exec L n) (exec L m):=by
 induction h with
 |refl=>intro c s r h;exact h
 |step _ ih=>intro c s r h;exact aZx L _ _ _ _ (ih _ _ _ h)
theorem aB9 {L:bH}{n:Nat}(h:n<=m)(hr:mB L n f a=some r):mB L m f a=some r:=zD (bFy L h) _ _ _ hr
def PC (L:bH)(f:Nat)(args:List Val)(r:Val):Prop:= ∃n0,∀n,n0<=n->mB L n f args=some r
def Ev (L:bH)(c:bB)(st:St)(e:Ex)(st':St):Prop:= ∃n0,∀n,n0<=n->exec L n c st=some (e,st')
def WIn (L:bH)(f:Val)(args:List Val)(en:En)(cnt:Nat->Nat->Nat)(Q:Val->En->(Nat->Nat->Nat)->Prop):Prop:=
 ∃v en' cnt',(∃n0,∀n,n0<=n-> ∀fr,(fH L (exec L n)).call f args ⟨fr,en,cnt⟩=some (v,⟨fr,en',cnt'⟩))/\ Q v en' cnt'
variable {Q:Val->En->(Nat->Nat->Nat)->Prop}{cnt:Nat->Nat->Nat}
theorem WIn.mono {L:bH}{f:Val}{R:Val->En->(Nat->Nat->Nat)->Prop}
  (h:WIn L f args en cnt Q) (k: ∀v en' cnt',Q v en' cnt'->R v en' cnt'):WIn L f args en cnt R:=by
 obtain⟨v,en',cnt',h1,h2⟩:=h;exact⟨v,en',cnt',h1,k _ _ _ h2⟩
theorem PC.det {L:bH}{s:Val}(h:PC L f args r)(k:PC L f args s):s=r:=by
 obtain⟨n,h⟩:=h;obtain⟨m,k⟩:=k;have h1:=h (max n m) (by omega);have h2:=k (max n m) (by omega)
 rw[h1]at h2;cases h2;rfl
theorem PC.is {L:bH}{s:Val}(h:PC L f args r):PC L f args s↔s=r:=
 ⟨fun k=>h.det k,fun e=>e▸h⟩
def bI5 :bE:=fun _ _=>none
def snapD :Nat->En->Val->Option (Val×List Key)
 |0,_,_=>none
 |n+1,en,v=>
  match v with
  | .ptr k off=>match en k with
   |some (.box cs _)=>match cY (snapD n en) cs with
    |some rs=>some (.fp (rs.map (·.1)) off,k::rs.flatMap (·.2))
    |none=>none
   |_=>none
  | .ep k i off=>match en k with
   |some (.blk _ xs _)=>if k.deep then none else match xs[i]? with
    |some x=>some (.fp x.cells off,[k])
    |none=>none
   |_=>none
  | .bl k off len=>match en k with
   |some (.blk _ xs _)=>if k.deep then none else if off+len<=xs.length then some (.fz ((xs.drop off).take len),[k])else none
   |_=>none
  | .mp k=>match en k with
   |some (.map ks vs _)=>some (.fm ks vs,[k])
   |_=>none
  | .yld _| .it _=>none
  | .fn f a b=>match cY (snapD n en) a with
   |some x=>match cY (snapD n en) b with
    |some y=>some (.fn f (x.map (·.1)) (y.map (·.1)),x.flatMap (·.2)++y.flatMap (·.2))
    |none=>none
   |none=>none
  | .ifc t v=>match snapD n en v with
   |some r=>some (.ifc t r.1,r.2)
   |none=>none
  | .agg cs=>match cY (snapD n en) cs with
   |some rs=>some (.agg (rs.map (·.1)),rs.flatMap (·.2))
   |none=>none
  | .tup vs=>match cY (snapD n en) vs with
   |some rs=>some (.tup (rs.map (·.1)),rs.flatMap (·.2))
   |none=>none
  |v=>some (v,[])
variable {α:Type}
theorem aCa {β:Type}{f g:α->Option β}(h: ∀x y,f x=some y->g x=some y): ∀{l:List α} {r:List β},cY f l=some r->cY g l=some r:=by
 intro l
 induction l with
 |nil=>intro r h';exact h'
 |cons x xs ih=>
  intro r h';simp only[cY]at h'⊢
  split at h'
  ·rename_i y hy
   split at h'
   ·rename_i ys hys;rw[h x y hy,ih hys];exact h'
   ·cases h'
  ·cases h'
theorem wC (en:En): ∀(n:Nat) (v:Val) (r:Val×List Key),snapD n en v=some r-> ∀m,n<=m->snap m en v=some r:=by
 intro n
 induction n with
 |zero=>intro v r h;simp[snapD]at h
 |succ n ih=>
  intro v r h m hm;obtain⟨m,rfl⟩: ∃k,m=k+1:=⟨m-1,by omega⟩
  have hl: ∀{l:List Val} {rs:List (Val×List Key)},cY (snapD n en) l=some rs->cY (snap m en) l=some rs:=
   fun h=>aCa (fun x y hx=>ih x y hx m (by omega)) h
  cases v with
  |ptr k off=>
   simp only[snapD]at h;simp only[snap]
   split at h
   ·rename_i hk
    split at h
    ·rename_i hrs;simp only[bSv]at h;subst h;simp only[hk,hl hrs,Option.map]
    ·cases h
   ·cases h
  |bl k off len=>
   simp only[snapD]at h;simp only[snap]
   split at h
   case h_2=>cases h
   rename_i hk
   split at h
   ·cases h
   rename_i hd
   split at h
   case isFalse=>cases h
   rename_i hl;simp only[hk,if_neg hd,if_pos hl];exact h
  |fn f a b=>
   simp only[snapD]at h;simp only[snap]
   split at h
   ·rename_i hx
    split at h
    ·rename_i hy;simp only[bSv]at h;subst h;simp only[hl hx,hl hy,Option.map]
    ·cases h
   ·cases h
  |ifc t v=>
   simp only[snapD]at h;simp only[snap]
   split at h
   ·rename_i hx;simp only[bSv]at h;subst h;simp only[ih _ _ hx m (by omega),Option.map]
   ·cases h
  |agg cs=>
   simp only[snapD]at h;simp only[snap]
   split at h
   ·rename_i hx;simp only[bSv]at h;subst h;simp only[hl hx,Option.map]
   ·cases h
  |tup vs=>
   simp only[snapD]at h;simp only[snap]
   split at h
   ·rename_i hx;simp only[bSv]at h;subst h;simp only[hl hx,Option.map]
   ·cases h
  |_=>exact h
def dG (d g:Nat)(en:En)(get:Opd->Val):LOp->Option Res
 | .bslice len size z parts=>
  if len*size<=16777216 then
   match cY (fun p=>match snapD 8 en (get p.2)with|some r=>some ((p.1,r.1.wk1),r.2)|none=>none) parts with
   |some ps=>match iF (List.replicate len (nN size z false)) size (ps.map (·.1))with
    |some xs=>some {v:= .cl xs,ws:=(ps.flatMap (·.2)).map .frz,rs:=(ps.flatMap (·.2)).map .val}
    |none=>none
   |none=>none
  else none
 | .store m a x=>
  let v:=get x
  if v.one=true/\ v.cells.length=m then
   match get a with
   | .ptr k off=>match en k with
    |some (.box cs false)=>if off+m<=cs.length then some {v:= .tup [],ws:=[.cells k off v.cells],rs:=[.flag k]}else none
    |_=>none
   | .ep k i off=>match en k with
    |some (.blk _ xs false)=>match xs[i]? with
     |some y=>if off+m<=y.cells.length then
       if k.deep then none else
       match snapD 8 en v with
       |some (v',ks)=>if v'.one=true/\ v'.cells.length=m/\ ks.all (fun k'=>decide (k'≠k))=true then some {v:= .tup [],ws:=ks.map .frz++[.elem k i off v'.wk1.cells],rs:= .val k:: .flag k::ks.map .val}else none
       |none=>none
      else none
     |none=>none
    |_=>none
   |_=>none
  else none
 | .call _ _| .icall _ _| .appendD .. | .bsliceK .. =>none
 |op=>eval 8 bI5 0 d g en get op
theorem bCm {r:Res}(h:dG d g en get op=some r)(call:bE)(n:Nat)(hn:8<=n):
  eval n call 0 d g en get op=some r:=by
 cases op with
 |bslice len size z parts=>
  simp only[dG]at h;simp only[eval]
  split at h
  ·rename_i hc;rw[if_pos hc]
   split at h
   ·rename_i ps hps;have:cY (fun p=>(snap n en (get p.2)).map fun r=>((p.1,r.1.wk1),r.2)) parts=some ps:=by
     refine aCa (fun x y hx=>?_) hps
     split at hx
     ·rename_i r hr;simp only[bSv]at hx;subst hx;rw[wC en 8 _ _ hr n hn];rfl
     ·cases hx
    rw[this];exact h
   ·cases h
  ·cases h
 |store m a x=>
  simp only[dG]at h;simp only[eval]
  split at h
  ·rename_i hc;rw[if_pos hc]
   split at h
   ·rename_i hg;simp only[hg];exact h
   ·rename_i hg;simp only[hg]
    split at h
    ·rename_i he;simp only[he]
     split at h
     ·rename_i hy;simp only[hy]
      split at h
      ·rename_i hl;rw[if_pos hl]
       split at h
       ·cases h
       rename_i hd;rw[if_neg hd]
       split at h
       ·rename_i hs;simp only[wC en 8 _ _ hs n hn];exact h
       ·cases h
      ·cases h
     ·cases h
    ·cases h
   ·cases h
  ·cases h
 |call f a=>simp[dG]at h
 |icall f a=>simp[dG]at h
 |appendD=>simp[dG]at h
 |bsliceK=>simp[dG]at h
 |_=>exact h
def WOp (L:bH)(d g:Nat)(en:En)(get:Opd->Val)(op:LOp)(K:Res->Prop):Prop:=
 match op with
 | .call f args=>match get f with
  | .fn f a b=>match cY (snapD 8 en) (a++args.map get++b)with
   |some rs=> ∃r,PC L f (rs.map (·.1.wk1)) r/\ K (iJ 0 d g r (rs.flatMap (·.2)))
   |none=>False
  |_=>False
 |op=>match dG d g en get op with
  |some r=>K r
  |none=>False
theorem bI6 {L:bH}{K:Res->Prop}(h:WOp L d g en get op K):
  op.me 0=0/\ ∃r,(∃n0,∀n,n0<=n->eval 8 (mB L n) 0 d g en get op=some r)/\ K r:=by
 have oth:(match dG d g en get op with|some r=>K r|none=>False)->op.me 0=0/\ ∃r,(∃n0,∀n,n0<=n->eval 8 (mB L n) 0 d g en get op=some r)/\ K r:=by
  intro h
  refine⟨by cases op<;>first|rfl|simp[dG]at h,?_⟩
  split at h
  ·rename_i r hr;exact⟨r,⟨0,fun n _=>bCm hr _ 8 (bSx _)⟩,h⟩
  ·exact h.elim
 cases op with
 |call f args=>
  simp only[WOp]at h
  split at h
  ·rename_i f' a b hf
   split at h
   ·rename_i rs hrs;obtain⟨r,⟨n1,h1⟩,hk⟩:=h
    refine⟨rfl,_,⟨n1,fun n hn=>?_⟩,hk⟩
    have:cY (fun x=>snap 8 en x) (a++args.map get++b)=some rs:=aCa (fun x y hx=>wC en 8 x y hx 8 (bSx _)) hrs
    simp only[eval,hf,this,h1 n (by omega)]
   ·exact h.elim
  ·exact h.elim
 |_=>exact oth h
def pG (L:bH)(st:St)(o:aN)(K:St->Res->Prop):Prop:=
 match wanted st.fr o.guard with
 |some true=>match o.op with
  | .icall f args=>WIn L (St.get st.fr f) (args.map (St.get st.fr)) st.en st.cnt fun v en' cnt'=>K ⟨iO st.fr o.dst v,en',cnt'⟩ {v,mem:=some (en',cnt'),unch:=fun k=>aS6 (st.en k) (en' k)}
  |op=>WOp L (o.dst.getD 0) (st.cnt 0 (o.dst.getD 0)) st.en (St.get st.fr) op fun r=>(r.bump&&o.dst.isNone)=false/\
    K ⟨iO st.fr o.dst r.v,W.applyAll st.en r.ws,if r.bump then aC st.cnt 0 (o.dst.getD 0) (st.cnt 0 (o.dst.getD 0)+1)else st.cnt⟩ r
 |some false=>K ⟨iO st.fr o.dst (.tup []),st.en,st.cnt⟩ {v:= .tup []}
 |none=>False
def jF (L:bH):List aN->St->(St->Prop)->Prop
 |[],st,Q=>Q st
 |o::l,st,Q=>pG L st o fun st' _=>jF L l st' Q
def tD (L:bH):List aN->St->(St->List Res->Prop)->Prop
 |[],st,Q=>Q st []
 |o::l,st,Q=>pG L st o fun st' r=>tD L l st' fun st'' rs=>Q st'' (r::rs)
def PX (L:bH)(f:Nat)(args:List Val)(v:Val):Prop:= ∃n0,∀n,n0<=n->bIn L n f args=some v
def xI (L:bH)(f:Nat)(args:List Val)(en:En)(cnt:Nat->Nat->Nat)(Q:Val->En->(Nat->Nat->Nat)->Prop):Prop:=
 ∃v en' cnt',(∃n0,∀n,n0<=n-> ∀fr,eL L (exec L n) f args ⟨fr,en,cnt⟩=some (v,⟨fr,en',cnt'⟩))/\ Q v en' cnt'
theorem xI.mono {L:bH}{R:Val->En->(Nat->Nat->Nat)->Prop}
  (h:xI L f args en cnt Q) (k: ∀v en' cnt',Q v en' cnt'->R v en' cnt'):xI L f args en cnt R:=by
 obtain⟨v,en',cnt',h1,h2⟩:=h;exact⟨v,en',cnt',h1,k _ _ _ h2⟩
def kS (L:bH)(o:aN)(st:St)(K:Val->St->Prop):Prop:=
 match wanted st.fr o.guard with
 |some true=>match o.op with
  | .panic x=>match St.get st.fr x with
   | .ifc t u=>(Val.ifc t u).flat=true/\ K (.ifc t u) st
   |_=>False
  | .call f args=>match f.noM,St.get st.fr f with
   |true,.fn f a b=>match cY (snapD 8 st.en) (a++args.map (St.get st.fr)++b)with
    |some rs=> ∃v,PX L f (rs.map (·.1.wk1)) v/\ K v st
    |none=>False
   |_,_=>False
  | .icall f args=>match St.get st.fr f with
   | .fn f a b=>xI L f (a++args.map (St.get st.fr)++b) st.en st.cnt fun v en' cnt'=>K v ⟨st.fr,en',cnt'⟩
   |_=>False
  |_=>False
 |_=>False
theorem wD {L:bH}{o:aN}{K K':Val->St->Prop}(h:kS L o st K)(k: ∀v s,K v s->K' v s):kS L o st K':=by
 unfold kS at h⊢
 split at h
 case h_2=>cases h
 split at h
 ·split at h
  case h_2=>cases h
  exact⟨h.1,k _ _ h.2⟩
 ·split at h
  case h_2=>cases h
  split at h
  case h_2=>cases h
  obtain⟨v,h1,h2⟩:=h;exact⟨v,h1,k _ _ h2⟩
 ·split at h
  case h_2=>cases h
  exact h.mono fun _ _ _=>k _ _
 ·cases h
theorem aCb {L:bH}{o:aN}{K:Val->St->Prop}(h:kS L o st K):
  ∃v st',(∃n0,∀n,n0<=n->eB 8 (cT L (exec L n)) (eL L (exec L n)) st o=some (v,st'))/\ K v st':=by
 unfold kS at h
 split at h
 case h_2=>cases h
 rename_i hw
 split at h
 ·rename_i x hop
  split at h
  case h_2=>cases h
  rename_i t u hu;exact⟨_,_,⟨0,fun n _=>by simp only[eB,hw,hop,hu,h.1,if_true]⟩,h.2⟩
 ·rename_i f args hop
  split at h
  case h_2=>cases h
  rename_i f' a b hf1 hf2
  split at h
  case h_2=>cases h
  rename_i rs hrs;obtain⟨v,⟨n0,h1⟩,h2⟩:=h
  refine⟨v,st,⟨n0,fun n hn=>?_⟩,h2⟩
  have:cY (fun x=>snap 8 st.en x) (a++args.map (St.get st.fr)++b)=some rs:=aCa (fun x y hx=>wC st.en 8 x y hx 8 (bSx _)) hrs
  have h1:=h1 n hn;unfold bIn at h1;simp only[eB,hw,hop,hf1,hf2,this,h1,bTr]
 ·rename_i f args hop
  split at h
  case h_2=>cases h
  rename_i f' a b hf;obtain⟨v,en',cnt',⟨n0,h1⟩,h2⟩:=h;exact⟨v,_,⟨n0,fun n hn=>by simp only[eB,hw,hop,hf,h1 n hn]⟩,h2⟩
 ·cases h
def kT (cnt:Nat->Nat->Nat):Key:=⟨1,0,cnt 1 0⟩
def Wp (L:bH):bB->St->(Ex->St->Prop)->Prop
 | .skip,st,Q=>Q .normal st
 | .ops l,st,Q=>jF L l st (Q .normal)
 | .draw l pairs,st,Q=>if pairs=[]then jF L l st (Q .normal)else tD L l st fun st' rs=>dV rs pairs=true/\ Q .normal st'
 | .seq a b,st,Q=>Wp L a st fun e st'=>match e with
  | .normal=>Wp L b st' Q
  | .exit i=>Q (.exit i) st'
  | .ret=>Q .ret st'
  | .panic v=>Q (.panic v) st'
 | .cond x a b,st,Q=>match St.get st.fr x with
  | .bool t=>if t=true then Wp L a st Q else Wp L b st Q
  |_=>False
 | .block id b,st,Q=>Wp L b st fun e st'=>match e with
  | .exit id'=>if id'=id then Q .normal st' else Q (.exit id') st'
  | .normal=>Q .normal st'
  | .ret=>Q .ret st'
  | .panic v=>Q (.panic v) st'
 | .loop b,st,Q=> ∃e st',Ev L (.loop b) st e st'/\ Q e st'
 | .exit id,st,Q=>Q (.exit id) st
 | .ret,st,Q=>Q .ret st
 | .rangeF g ps a b,st,Q=>
  match St.get st.fr g with
  | .fn f x y=>(WIn L (.fn f x y) [.yld (kT st.cnt)] (st.en.set (kT st.cnt) (some (.loop st.fr ps a b .ready))) (aC st.cnt 1 0 (st.cnt 1 0+1)) fun _ en' cnt'=>
   match en' (kT st.cnt)with
   |some (.loop _ _ _ _ .ready)=>Q .normal ⟨st.fr,en'.set (kT st.cnt) none,cnt'⟩
   |some (.loop _ _ _ _ (.done e))=>Q e ⟨st.fr,en'.set (kT st.cnt) none,cnt'⟩
   |_=>False) \/xI L f (x++[.yld (kT st.cnt)]++y) (st.en.set (kT st.cnt) (some (.loop st.fr ps a b .ready))) (aC st.cnt 1 0 (st.cnt 1 0+1)) fun v en' cnt'=>Q (.panic v) ⟨st.fr,en'.set (kT st.cnt) none,cnt'⟩
  |_=>False
 | .opsP l,st,Q=>jF L l st (Q .normal) \/ ∃k o,l[k]?=some o/\ jF L (l.take k) st fun st1=>kS L o st1 fun v st2=>Q (.panic v) st2
 | .drawP l an pairs,st,Q=>(tD L l st fun st' rs=>dV rs pairs=true/\ Q .normal st') \/
   ∃j o,l[j]?=some o/\ (jF L (l.take j) st fun s=>kS L o s fun _ _=>True)/\ tD L (dE an j l) st fun st1 rs=>(dV rs pairs&&jW an j l rs)=true/\
    kS L o st1 fun v st2=>Q (.panic v) ⟨fun t=>if nB l t then .tup []else st2.fr t,st2.en,st2.cnt⟩
 | .drawL l an pairs A,st,Q=>(tD L (jS A (iZ st (l.getD A default)) l) (xN (iZ st (l.getD A default)) (aPd (l.getD A default).op) st) fun st' rs=>(dV rs pairs&&pS an A (iZ st (l.getD A default)) rs)=true/\ Q .normal st') \/
   ∃j o,(jS A (iZ st (l.getD A default)) l)[j]?=some o/\ (jF L ((jS A (iZ st (l.getD A default)) l).take j) (xN (iZ st (l.getD A default)) (aPd (l.getD A default).op) st) fun s=>kS L o s fun _ _=>True)/\
    tD L (dE an j (jS A (iZ st (l.getD A default)) l)) (xN (iZ st (l.getD A default)) (aPd (l.getD A default).op) st) fun st1 rs=>((dV rs pairs&&jW an j (jS A (iZ st (l.getD A default)) l) rs)&&pS an A (iZ st (l.getD A default)) rs)=true/\
    kS L o st1 fun v st2=>Q (.panic v) ⟨fun t=>if nB (jS A (iZ st (l.getD A default)) l) t then .tup []else st2.fr t,st2.en,st2.cnt⟩
 | .dfr ts l f args b,st,Q=>jF L l st fun st2=>Wp L b st2 fun e st3=>ts.any (fun t=>(st3.fr t).isUndef)=false/\
   ∃st4,(∃n0,∀n,n0<=n->iS L (exec L n) (St.get st2.fr f) (args.map (St.get st2.fr)) e st3=some st4)/\ Q .ret st4
 | .rcv _ _ _,_,_=>False
variable {call:bE}{io:Inl}
theorem bFz {n:Nat}{o:aN}{r:Res}(hme:o.op.me 0=0)(hne: ∀f a,o.op≠ .icall f a)(hw:wanted st.fr o.guard=some true)
  (he:eval n call 0 (o.dst.getD 0) (st.cnt 0 (o.dst.getD 0)) st.en (St.get st.fr) o.op=some r) (hb:(r.bump&&o.dst.isNone)=false):
  step n call io 0 st o=some (⟨iO st.fr o.dst r.v,W.applyAll st.en r.ws,if r.bump then aC st.cnt 0 (o.dst.getD 0) (st.cnt 0 (o.dst.getD 0)+1)else st.cnt⟩,r):=by
 obtain⟨dst,op,guard⟩:=o
 simp only at hw he hb hne hme
 cases op with
 |icall f a=>exact absurd rfl (hne _ _)
 |_=>simp only[step,hw,hme,he,hb,bS0,if_false]
theorem aYe {L:bH}{o:aN}{K:St->Res->Prop}(h:pG L st o K):
  ∃st' r,(∃n0,∀n,n0<=n->step 8 (mB L n) (fH L (exec L n)) 0 st o=some (st',r))/\ K st' r:=by
 unfold pG at h
 split at h
 ·rename_i hw
  split at h
  ·rename_i f args hop;obtain⟨v,en',cnt',⟨n0,hn⟩,hk⟩:=h
   refine⟨_,_,⟨n0,fun n hn'=>?_⟩,hk⟩
   simp only[step,hw,hop,hn n hn']
  ·rename_i op hne;obtain⟨hme,r,⟨n0,hn⟩,hb,hk⟩:=bI6 h;exact⟨_,r,⟨n0,fun n hn'=>bFz hme (fun f a=>hne f a) hw (hn n hn') hb⟩,hk⟩
 ·rename_i hw;exact⟨_,_,⟨0,fun n _=>by simp only[step,hw]⟩,h⟩
 ·exact h.elim
theorem aCc {L:bH}(l:List aN): ∀{st:St} {Q:St->Prop},jF L l st Q->
  ∃st',(∃n0,∀n,n0<=n->gY 8 (mB L n) (fH L (exec L n)) 0 l st=some st')/\ Q st':=by
 induction l with
 |nil=>intro st Q h;exact⟨st,⟨0,fun n _=>rfl⟩,h⟩
 |cons o l ih=>
  intro st Q h;obtain⟨st1,r,⟨n1,h1⟩,hk⟩:=aYe h;obtain⟨st2,⟨n2,h2⟩,hq⟩:=ih hk;exact⟨st2,⟨max n1 n2,fun n hn=>by simp only[gY,h1 n (by omega),h2 n (by omega)]⟩,hq⟩
theorem aL7 {L:bH}(l:List aN): ∀{st:St} {Q:St->List Res->Prop},tD L l st Q->
  ∃st' rs,(∃n0,∀n,n0<=n->jP 8 (mB L n) (fH L (exec L n)) 0 l st=some (st',rs))/\ Q st' rs:=by
 induction l with
 |nil=>intro st Q h;exact⟨st,[],⟨0,fun n _=>rfl⟩,h⟩
 |cons o l ih=>
  intro st Q h;obtain⟨st1,r,⟨n1,h1⟩,hk⟩:=aYe h;obtain⟨st2,rs,⟨n2,h2⟩,hq⟩:=ih hk;exact⟨st2,r::rs,⟨max n1 n2,fun n hn=>by simp only[jP,h1 n (by omega),h2 n (by omega)]⟩,hq⟩
theorem aIa {n:Nat}(l:List aN): ∀{st st':St},gY n call io 0 l st=some st'-> ∃rs,jP n call io 0 l st=some (st',rs):=by
 induction l with
 |nil=>intro st st' h;simp only[gY,bSv]at h;subst h;exact⟨[],rfl⟩
 |cons o l ih=>
  intro st st' h;simp only[gY]at h
  split at h
  ·rename_i st1 r hs;obtain⟨rs,hr⟩:=ih h;exact⟨r::rs,by simp only[jP,hs,hr]⟩
  ·cases h
theorem aYf {L:bH}{x:bB->St->Option (Ex×St)}{k:Nat}: ∀(l:List aN) {st st':St},gY 8 (bP L k x) (fH L x) 0 l st=some st'->aFr 8 (bP L k x) (fH L x) (cT L x) (eL L x) l st=some (.normal,st')
 |[],st,st',h=>by simp only[gY,bSv]at h;subst h;rfl
 |o::l,st,st',h=>by
  simp only[gY]at h
  split at h
  case h_2=>cases h
  rename_i hs;have hn:eB 8 (cT L x) (eL L x) st o=none:=by
   cases hq:eB 8 (cT L x) (eL L x) st o with
   |none=>rfl
   |some q=>rw[aB8 hq]at hs;cases hs
  simp only[aFr,hn,hs];exact aYf l h
theorem aF8 {L:bH}{x:bB->St->Option (Ex×St)}{k:Nat}: ∀(l:List aN) {j:Nat} {o:aN} {st st':St} {v:Val} {st2:St},l[j]?=some o->gY 8 (bP L k x) (fH L x) 0 (l.take j) st=some st'->
  eB 8 (cT L x) (eL L x) st' o=some (v,st2)->aFr 8 (bP L k x) (fH L x) (cT L x) (eL L x) l st=some (.panic v,st2)/\ ∀i,qU 8 (bP L k x) (fH L x) (cT L x) (eL L x) l i st=some (i+j)
 |[],j,o,st,st',v,st2,hj,_,_=>by simp at hj
 |o'::l,0,o,st,st',v,st2,hj,hr,hp=>by
  simp only[bVl,bSv]at hj;subst hj;simp only[bS2,gY,bSv]at hr;subst hr;exact⟨by simp only[aFr,hp],fun i=>by simp only[qU,hp,bUk]⟩
 |o'::l,j+1,o,st,st',v,st2,hj,hr,hp=>by
  simp only[bWf]at hj;simp only[bS3,gY]at hr
  split at hr
  case h_2=>cases hr
  rename_i hs;have hn:eB 8 (cT L x) (eL L x) st o'=none:=by
   cases hq:eB 8 (cT L x) (eL L x) st o' with
   |none=>rfl
   |some q=>rw[aB8 hq]at hs;cases hs
  obtain⟨h1,h2⟩:=aF8 l hj hr hp
  refine⟨by simp only[aFr,hn,hs];exact h1,fun i=>?_⟩
  simp only[qU,hn,hs];rw[h2 (i+1)]
  congr 1;omega
theorem aKj {L:bH}{ex:bB->St->Option (Ex×St)}{r:Val×St}(h:eL L ex f args st=some r):aBy L ex f args st=none:=by
 unfold eL at h
 split at h
 ·cases h
 rename_i lf hL
 split at h
 case isFalse=>cases h
 rename_i hc;have:lL L ex f args st=none:=by
  simp only[lL,hL,hc.1,if_true,hc.2,bS0,if_false]
  split at h
  ·rename_i v st' he;rw[he];rfl
  ·cases h
 simp only[aBy,this]
theorem aF9 {L:bH}(c:bB): ∀{st:St} {Q:Ex->St->Prop},Wp L c st Q-> ∃e st',Ev L c st e st'/\ Q e st':=by
 induction c with
 |skip=>intro st Q h;exact⟨.normal,st,⟨1,fun n hn=>by obtain⟨m,rfl⟩: ∃m,n=m+1:=⟨n-1,by omega⟩;rfl⟩,h⟩
 |ops l=>
  intro st Q h;obtain⟨st',⟨n0,h0⟩,hq⟩:=aCc l h
  refine⟨.normal,st',⟨n0+1,fun n hn=>?_⟩,hq⟩
  obtain⟨m,rfl⟩: ∃m,n=m+1:=⟨n-1,by omega⟩
  have:=h0 m (by omega)
  simp only[mB]at this;simp only[exec,this,Option.map]
 |draw l pairs=>
  intro st Q h;simp only[Wp]at h
  split at h
  ·rename_i hp;obtain⟨st',⟨n0,h0⟩,hq⟩:=aCc l h
   refine⟨.normal,st',⟨n0+1,fun n hn=>?_⟩,hq⟩
   obtain⟨m,rfl⟩: ∃m,n=m+1:=⟨n-1,by omega⟩
   obtain⟨rs,hr⟩:=aIa l (h0 m (by omega))
   simp only[mB]at hr;simp only[exec,hr,hp,dV,List.all_nil,if_true]
  ·obtain⟨st',rs,⟨n0,h0⟩,hp,hq⟩:=aL7 l h
   refine⟨.normal,st',⟨n0+1,fun n hn=>?_⟩,hq⟩
   obtain⟨m,rfl⟩: ∃m,n=m+1:=⟨n-1,by omega⟩
   have hr:=h0 m (by omega)
   simp only[mB]at hr;simp only[exec,hr,hp,if_true]
 |seq a b iha ihb=>
  intro st Q h;obtain⟨e,st1,⟨n1,h1⟩,hk⟩:=iha h;cases e with
  |normal=>
   obtain⟨e2,st2,⟨n2,h2⟩,hq⟩:=ihb hk
   refine⟨e2,st2,⟨max n1 n2+1,fun n hn=>?_⟩,hq⟩
   obtain⟨m,rfl⟩: ∃m,n=m+1:=⟨n-1,by omega⟩
   simp only[exec,h1 m (by omega),h2 m (by omega)]
  |exit id=>
   refine⟨_,st1,⟨n1+1,fun n hn=>?_⟩,hk⟩
   obtain⟨m,rfl⟩: ∃m,n=m+1:=⟨n-1,by omega⟩
   simp only[exec,h1 m (by omega)]
  |ret=>
   refine⟨_,st1,⟨n1+1,fun n hn=>?_⟩,hk⟩
   obtain⟨m,rfl⟩: ∃m,n=m+1:=⟨n-1,by omega⟩
   simp only[exec,h1 m (by omega)]
  |panic v=>
   refine⟨_,st1,⟨n1+1,fun n hn=>?_⟩,hk⟩
   obtain⟨m,rfl⟩: ∃m,n=m+1:=⟨n-1,by omega⟩
   simp only[exec,h1 m (by omega)]
 |cond x a b iha ihb=>
  intro st Q h;simp only[Wp]at h
  split at h
  ·rename_i t ht;cases t with
   |true=>
    obtain⟨e,st1,⟨n1,h1⟩,hk⟩:=iha (by simpa using h)
    refine⟨e,st1,⟨n1+1,fun n hn=>?_⟩,hk⟩
    obtain⟨m,rfl⟩: ∃m,n=m+1:=⟨n-1,by omega⟩
    simp only[exec,ht,h1 m (by omega)]
   |false=>
    obtain⟨e,st1,⟨n1,h1⟩,hk⟩:=ihb (by simpa using h)
    refine⟨e,st1,⟨n1+1,fun n hn=>?_⟩,hk⟩
    obtain⟨m,rfl⟩: ∃m,n=m+1:=⟨n-1,by omega⟩
    simp only[exec,ht,h1 m (by omega)]
  ·exact h.elim
 |block id b ih=>
  intro st Q h;obtain⟨e,st1,⟨n1,h1⟩,hk⟩:=ih h;cases e with
  |exit id'=>
   simp only at hk
   by_cases hi:id'=id
   ·rw[if_pos hi]at hk
    refine⟨.normal,st1,⟨n1+1,fun n hn=>?_⟩,hk⟩
    obtain⟨m,rfl⟩: ∃m,n=m+1:=⟨n-1,by omega⟩
    simp only[exec,h1 m (by omega),hi,if_true]
   ·rw[if_neg hi]at hk
    refine⟨.exit id',st1,⟨n1+1,fun n hn=>?_⟩,hk⟩
    obtain⟨m,rfl⟩: ∃m,n=m+1:=⟨n-1,by omega⟩
    simp only[exec,h1 m (by omega),hi,if_false]
  |normal=>
   refine⟨_,st1,⟨n1+1,fun n hn=>?_⟩,hk⟩
   obtain⟨m,rfl⟩: ∃m,n=m+1:=⟨n-1,by omega⟩
   simp only[exec,h1 m (by omega)]
  |ret=>
   refine⟨_,st1,⟨n1+1,fun n hn=>?_⟩,hk⟩
   obtain⟨m,rfl⟩: ∃m,n=m+1:=⟨n-1,by omega⟩
   simp only[exec,h1 m (by omega)]
  |panic v=>
   refine⟨_,st1,⟨n1+1,fun n hn=>?_⟩,hk⟩
   obtain⟨m,rfl⟩: ∃m,n=m+1:=⟨n-1,by omega⟩
   simp only[exec,h1 m (by omega)]
 |loop b ih=>intro st Q h;exact h
 |exit id=>intro st Q h;exact⟨.exit id,st,⟨1,fun n hn=>by obtain⟨m,rfl⟩: ∃m,n=m+1:=⟨n-1,by omega⟩;rfl⟩,h⟩
 |ret=>intro st Q h;exact⟨.ret,st,⟨1,fun n hn=>by obtain⟨m,rfl⟩: ∃m,n=m+1:=⟨n-1,by omega⟩;rfl⟩,h⟩
 |rangeF g ps a b=>
  intro st Q h;simp only[Wp]at h
  split at h
  ·rename_i f x y hg;rcases h with h|⟨v,en',cnt',⟨n1,h1⟩,hk⟩
   case inr=>
    refine⟨_,_,⟨n1+1,fun n hn=>?_⟩,hk⟩
    obtain⟨m,rfl⟩: ∃m,n=m+1:=⟨n-1,by omega⟩
    have hi:=h1 m (by omega) st.fr
    simp only[kT]at hi;simp only[exec,hg,oJ,kT,aKj hi,hi]
   obtain⟨v,en',cnt',⟨n1,h1⟩,hk⟩:=h;have run: ∀n,n1+1<=n-> ∀r,(match en' (kT st.cnt)with
     |some (.loop _ _ _ _ .ready)=>some (Ex.normal,{fr:=st.fr,en:=en'.set (kT st.cnt) none,cnt:=cnt':St})
     |some (.loop _ _ _ _ (.done e))=>some (e,{fr:=st.fr,en:=en'.set (kT st.cnt) none,cnt:=cnt'})
     |_=>none)=some r->exec L n (.rangeF g ps a b) st=some r:=by
    intro n hn r hr;obtain⟨m,rfl⟩: ∃m,n=m+1:=⟨n-1,by omega⟩
    have hi:=h1 m (by omega) st.fr
    simp only[Inl.call,fH]at hi;simp only[exec,hg,oJ];simp only[kT]at hi hr;rw[hi];exact hr
   split at hk
   ·rename_i hl;exact⟨_,_,⟨n1+1,fun n hn=>run n hn _ (by simp only[hl])⟩,hk⟩
   ·rename_i hl;exact⟨_,_,⟨n1+1,fun n hn=>run n hn _ (by simp only[hl])⟩,hk⟩
   ·exact hk.elim
  ·exact h.elim
 |rcv d l b=>intro st Q h;exact h.elim
 |opsP l=>
  intro st Q h;rcases h with h|⟨k,o,hk,h⟩
  ·obtain⟨st',⟨n0,h0⟩,hq⟩:=aCc l h
   refine⟨.normal,st',⟨n0+1,fun n hn=>?_⟩,hq⟩
   obtain⟨m,rfl⟩: ∃m,n=m+1:=⟨n-1,by omega⟩
   rw[exec];exact aYf l (h0 m (by omega))
  ·obtain⟨st1,⟨n0,h0⟩,hp⟩:=aCc _ h;obtain⟨v,st2,⟨n1,h1⟩,hq⟩:=aCb hp
   refine⟨.panic v,st2,⟨max n0 n1+1,fun n hn=>?_⟩,hq⟩
   obtain⟨m,rfl⟩: ∃m,n=m+1:=⟨n-1,by omega⟩
   rw[exec];exact(aF8 l hk (h0 m (by omega)) (h1 m (by omega))).1
 |drawP l an pairs=>
  intro st Q h;rcases h with h|⟨j,o,hj,h1,h2⟩
  ·obtain⟨st',rs,⟨n0,h0⟩,hp,hq⟩:=aL7 l h
   refine⟨.normal,st',⟨n0+1,fun n hn=>?_⟩,hq⟩
   obtain⟨m,rfl⟩: ∃m,n=m+1:=⟨n-1,by omega⟩
   have hr:=h0 m (by omega)
   simp only[mB]at hr;simp only[exec,wB l hr,hr,hp,if_true]
  ·obtain⟨s,⟨n0,h0⟩,hp0⟩:=aCc _ h1;obtain⟨v0,s2,⟨n1,hn1⟩,_⟩:=aCb hp0;obtain⟨st1,rs,⟨n2,hn2⟩,hc,hp⟩:=aL7 _ h2;obtain⟨v,st2,⟨n3,hn3⟩,hq⟩:=aCb hp
   refine⟨_,_,⟨max (max n0 n1) (max n2 n3)+1,fun n hn=>?_⟩,hq⟩
   obtain⟨m,rfl⟩: ∃m,n=m+1:=⟨n-1,by omega⟩
   have hf:=(aF8 l hj (h0 m (by omega)) (hn1 m (by omega))).2 0
   rw[bTw]at hf;have hr:=hn2 m (by omega)
   simp only[mB]at hr;have hoj:l.getD j default=o:=by simp[bSz,hj]
   simp only[exec,hf,xM,hr,hc,if_true,hoj,hn3 m (by omega)]
 |drawL l an pairs A=>
  intro st Q h;rcases h with h|⟨j,o,hj,h1,h2⟩
  ·obtain⟨st',rs,⟨n0,h0⟩,hp,hq⟩:=aL7 _ h
   refine⟨.normal,st',⟨n0+1,fun n hn=>?_⟩,hq⟩
   obtain⟨m,rfl⟩: ∃m,n=m+1:=⟨n-1,by omega⟩
   have hr:=h0 m (by omega)
   simp only[mB]at hr;rw[exec];unfold yV;simp only[wB _ hr,hr,hp,if_true]
  ·obtain⟨s,⟨n0,h0⟩,hp0⟩:=aCc _ h1;obtain⟨v0,s2,⟨n1,hn1⟩,_⟩:=aCb hp0;obtain⟨st1,rs,⟨n2,hn2⟩,hc,hp⟩:=aL7 _ h2;obtain⟨v,st2,⟨n3,hn3⟩,hq⟩:=aCb hp
   refine⟨_,_,⟨max (max n0 n1) (max n2 n3)+1,fun n hn=>?_⟩,hq⟩
   obtain⟨m,rfl⟩: ∃m,n=m+1:=⟨n-1,by omega⟩
   have hf:=(aF8 _ hj (h0 m (by omega)) (hn1 m (by omega))).2 0
   rw[bTw]at hf;have hr:=hn2 m (by omega)
   simp only[mB]at hr;have hoj:(jS A (iZ st (l.getD A default)) l).getD j default=o:=by rw[bSz,hj];rfl
   rw[exec];unfold yV;simp only[hf,hr,hc,if_true,hoj,hn3 m (by omega)]
 |dfr ts l f args b ih=>
  intro st Q h;obtain⟨st2,⟨n0,h0⟩,hb⟩:=aCc l h;obtain⟨e,st3,⟨n1,h1⟩,hts,st4,⟨n2,h2⟩,hq⟩:=ih hb
  refine⟨.ret,st4,⟨max n0 (max n1 n2)+1,fun n hn=>?_⟩,hq⟩
  obtain⟨m,rfl⟩: ∃m,n=m+1:=⟨n-1,by omega⟩
  have hr:=h0 m (by omega)
  simp only[mB]at hr;simp only[exec,hr,h1 m (by omega),hts,bS0,if_false,h2 m (by omega),bTr]
theorem wp_loop {L:bH}{b:bB}{Q:Ex->St->Prop}(I:α->St->Prop)(μ:α->Nat)(x:α)(h0:I x st)
  (hr: ∀x st,I x st->Wp L b st fun e st'=>match e with
   | .normal=> ∃y,I y st'/\ μ y<μ x
   | .exit i=>Q (.exit i) st'
   | .ret=>Q .ret st'
   | .panic v=>Q (.panic v) st'):Wp L (.loop b) st Q:=by
 have key: ∀m x st,μ x=m->I x st-> ∃e st',Ev L (.loop b) st e st'/\ Q e st':=by
  intro m
  induction m using Nat.strongRecOn with
  |_ m ih=>
   intro x st hm hI;obtain⟨e,st1,⟨n1,h1⟩,hk⟩:=aF9 b (hr x st hI);cases e with
   |normal=>
    obtain⟨y,hy,hlt⟩:=hk;obtain⟨e2,st2,⟨n2,h2⟩,hq⟩:=ih (μ y) (hm▸hlt) y st1 rfl hy
    refine⟨e2,st2,⟨max n1 n2+1,fun n hn=>?_⟩,hq⟩
    obtain⟨m',rfl⟩: ∃m,n=m+1:=⟨n-1,by omega⟩
    simp only[exec,h1 m' (by omega),h2 m' (by omega)]
   |exit id=>
    refine⟨_,st1,⟨n1+1,fun n hn=>?_⟩,hk⟩
    obtain⟨m',rfl⟩: ∃m,n=m+1:=⟨n-1,by omega⟩
    simp only[exec,h1 m' (by omega)]
   |ret=>
    refine⟨_,st1,⟨n1+1,fun n hn=>?_⟩,hk⟩
    obtain⟨m',rfl⟩: ∃m,n=m+1:=⟨n-1,by omega⟩
    simp only[exec,h1 m' (by omega)]
   |panic v=>
    refine⟨_,st1,⟨n1+1,fun n hn=>?_⟩,hk⟩
    obtain⟨m',rfl⟩: ∃m,n=m+1:=⟨n-1,by omega⟩
    simp only[exec,h1 m' (by omega)]
 exact key _ x st rfl h0
theorem wp_mono {L:bH}(c:bB): ∀{st:St} {Q R:Ex->St->Prop},Wp L c st Q->(∀e st',Q e st'->R e st')->Wp L c st R:=by
 have stp: ∀{st:St} {o:aN} {K K':St->Res->Prop},pG L st o K->(∀s r,K s r->K' s r)->pG L st o K':=by
  intro st o K K' h hk;unfold pG at h⊢;split
  ·rename_i hw;simp only[hw]at h;split
   ·rename_i f args hop;simp only[hop]at h;exact h.mono fun _ _ _=>hk _ _
   ·rename_i op hne;have h':WOp L (o.dst.getD 0) (st.cnt 0 (o.dst.getD 0)) st.en (St.get st.fr) o.op fun r=>(r.bump&&o.dst.isNone)=false/\
      K ⟨iO st.fr o.dst r.v,W.applyAll st.en r.ws,if r.bump then aC st.cnt 0 (o.dst.getD 0) (st.cnt 0 (o.dst.getD 0)+1)else st.cnt⟩ r:=by
     split at h
     ·rename_i f a hx;exact absurd hx (hne f a)
     ·exact h
    have oth: ∀{K K':Res->Prop},(∀r,K r->K' r)->(match dG (o.dst.getD 0) (st.cnt 0 (o.dst.getD 0)) st.en (St.get st.fr) o.op with|some r=>K r|none=>False)->
      (match dG (o.dst.getD 0) (st.cnt 0 (o.dst.getD 0)) st.en (St.get st.fr) o.op with|some r=>K' r|none=>False):=by
     intro K K' hk h;split<;>rename_i hr<;>simp only[hr]at h;exact hk _ h
    have mono: ∀{K K':Res->Prop},(∀r,K r->K' r)->WOp L (o.dst.getD 0) (st.cnt 0 (o.dst.getD 0)) st.en (St.get st.fr) o.op K->WOp L (o.dst.getD 0) (st.cnt 0 (o.dst.getD 0)) st.en (St.get st.fr) o.op K':=by
     intro K K' hk h;generalize hop:o.op=op at h⊢oth;cases op with
     |call f args=>
      simp only[WOp]at h⊢
      split at h
      ·split at h
       ·obtain⟨r,h1,h2⟩:=h;exact⟨r,h1,hk _ h2⟩
       ·exact h.elim
      ·exact h.elim
     |_=>exact oth hk h
    exact mono (fun r ⟨h1,h2⟩=>⟨h1,hk _ _ h2⟩) h'
  ·rename_i hw;simp only[hw]at h;exact hk _ _ h
  ·rename_i hw;simp only[hw]at h
 have ops: ∀(l:List aN) {st:St} {Q R:St->Prop},jF L l st Q->(∀s,Q s->R s)->jF L l st R:=by
  intro l
  induction l with
  |nil=>intro st Q R h k;exact k _ h
  |cons o l ih=>intro st Q R h k;exact stp h fun s r hs=>ih hs k
 have rec_: ∀(l:List aN) {st:St} {Q R:St->List Res->Prop},tD L l st Q->(∀s rs,Q s rs->R s rs)->tD L l st R:=by
  intro l
  induction l with
  |nil=>intro st Q R h k;exact k _ _ h
  |cons o l ih=>intro st Q R h k;exact stp h fun s r hs=>ih hs fun s rs hq=>k _ _ hq
 induction c with
 |skip=>intro st Q R h k;exact k _ _ h
 |ops l=>intro st Q R h k;exact ops l h fun s=>k _ s
 |draw l pairs=>
  intro st Q R h k;simp only[Wp]at h⊢
  split at h
  ·rename_i hp;rw[if_pos hp];exact ops l h fun s=>k _ s
  ·rename_i hp;rw[if_neg hp];exact rec_ l h fun s rs ⟨h1,h2⟩=>⟨h1,k _ _ h2⟩
 |seq a b iha ihb=>
  intro st Q R h k
  refine iha h fun e st' hq=>?_
  cases e with
  |normal=>exact ihb hq k
  |exit i=>exact k _ _ hq
  |ret=>exact k _ _ hq
  |panic v=>exact k _ _ hq
 |cond x a b iha ihb=>
  intro st Q R h k;simp only[Wp]at h⊢
  split at h
  ·rename_i t ht
   split at h
   ·rename_i htt;rw[if_pos htt];exact iha h k
   ·rename_i htt;rw[if_neg htt];exact ihb h k
  ·exact h.elim
 |block id b ih=>
  intro st Q R h k
  refine ih h fun e st' hq=>?_
  cases e with
  |normal=>exact k _ _ hq
  |exit i=>
   simp only at hq⊢
   split at hq
   ·rename_i hi;rw[if_pos hi];exact k _ _ hq
   ·rename_i hi;rw[if_neg hi];exact k _ _ hq
  |ret=>exact k _ _ hq
  |panic v=>exact k _ _ hq
 |loop b ih=>intro st Q R h k;obtain⟨e,st',h1,h2⟩:=h;exact⟨e,st',h1,k _ _ h2⟩
 |exit id=>intro st Q R h k;exact k _ _ h
 |ret=>intro st Q R h k;exact k _ _ h
 |rangeF g ps a b=>
  intro st Q R h k;simp only[Wp]at h⊢
  split at h
  ·rcases h with h|h
   ·refine .inl (h.mono fun v en' cnt' hq=>?_)
    split at hq
    ·exact k _ _ hq
    ·exact k _ _ hq
    ·exact hq.elim
   ·exact .inr (h.mono fun v en' cnt' hq=>k _ _ hq)
  ·exact h.elim
 |rcv d l b=>intro st Q R h k;exact h.elim
 |opsP l=>
  intro st Q R h k;rcases h with h|⟨j,o,hj,h⟩
  ·exact .inl (ops l h fun s=>k _ s)
  ·exact .inr ⟨j,o,hj,ops _ h fun s hs=>wD hs fun v s2=>k _ s2⟩
 |drawP l an pairs=>
  intro st Q R h k;rcases h with h|⟨j,o,hj,h1,h2⟩
  ·exact .inl (rec_ l h fun s rs ⟨h1,h2⟩=>⟨h1,k _ _ h2⟩)
  ·exact .inr ⟨j,o,hj,h1,rec_ _ h2 fun s rs ⟨q1,q2⟩=>⟨q1,wD q2 fun v s2=>k _ _⟩⟩
 |drawL l an pairs A=>
  intro st Q R h k;rcases h with h|⟨j,o,hj,h1,h2⟩
  ·exact .inl (rec_ _ h fun s rs ⟨h1,h2⟩=>⟨h1,k _ _ h2⟩)
  ·exact .inr ⟨j,o,hj,h1,rec_ _ h2 fun s rs ⟨q1,q2⟩=>⟨q1,wD q2 fun v s2=>k _ _⟩⟩
 |dfr ts l f args b ih=>
  intro st Q R h k;exact ops l h fun st2 hb=>ih hb fun e st3 ⟨h1,st4,h2,h3⟩=>⟨h1,st4,h2,k _ _ h3⟩
theorem bI7 {L:bH}{a b:bB}{Q:Ex->St->Prop}(M:St->Prop)
  (h:Wp L a st fun e st'=>match e with| .normal=>M st'| .exit i=>Q (.exit i) st'| .ret=>Q .ret st'| .panic v=>Q (.panic v) st') (k: ∀st',M st'->Wp L b st' Q):Wp L (.seq a b) st Q:=by
 refine wp_mono a h fun e st' hq=>?_
 cases e with
 |normal=>exact k _ hq
 |exit i=>exact hq
 |ret=>exact hq
 |panic v=>exact hq
def bCn (st:St)(lf:fR)(r:Val):Prop:=
 match cY (pM st) lf.res with
 |some vs=>match(if lf.keep then aX3 st.en (aBi vs)else none)with
  |some v=>v=r
  |none=>match snapD 8 st.en (aBi vs)with
   |some (v,_)=>(if lf.keep then v else v.wk)=r
   |none=>False
 |none=>False
def bI8 (L:bH)(lf:fR)(args:List Val)(r:Val):Prop:= ∃n0,∀n,n0<=n->jN lf 8 (exec L n) args=some r
theorem rC {L:bH}(h:Wp L lf.body (start args) fun e st=>e.ends=true/\ bCn st lf r):bI8 L lf args r:=by
 obtain⟨e,st,⟨n1,h1⟩,he,h2⟩:=aF9 _ h
 refine⟨n1,fun n hm=>?_⟩
 simp only[jN,h1 n (by omega),he,if_true,aFp]
 unfold bCn at h2
 split at h2
 ·rename_i vs hvs;simp only[hvs]
  split at h2
  ·rename_i v hv;rw[hv,h2]
  ·rename_i hv;rw[hv]
   split at h2
   ·rename_i v ks hs;simp only[wC _ _ _ _ hs 8 (bSx _),h2]
   ·exact h2.elim
 ·exact h2.elim
theorem cD {L:bH}(hL:L f=some lf)(hn:args.length=lf.np)(ha:tA lf args=false)
  (h:Wp L lf.body (start args) fun e st=>e.ends=true/\ bCn st lf r):PC L f args r:=by
 obtain⟨n1,h1⟩:=rC h
 refine⟨n1,fun n hm=>?_⟩
 simp only[mB,bP,hL,hn,if_true,ha,bS0,if_false,h1 n (by omega)]
theorem bF0 {a b:Option Val}(ha:a=some r)(hb:b=some r)(hr:r= .cl [] \/r= .fz []):kL a b=some r:=by
 rcases hr with rfl|rfl<;>simp[ha,hb,kL]
theorem aL8 {L:bH}(hL:L f=some lf)(hn:args.length=lf.np)(ha:tA lf args=true)(hr:r= .cl [] \/r= .fz [])(h1:bI8 L lf [.es true] r)(h2:bI8 L lf [.es false] r):PC L f args r:=by
 obtain⟨n1,h1⟩:=h1;obtain⟨n2,h2⟩:=h2
 refine⟨max n1 n2,fun n hm=>?_⟩
 simp only[mB,bP,hL,hn,if_true,ha];exact bF0 (h1 n (by omega)) (h2 n (by omega)) hr
theorem dP {L:bH}{b:List Val}(hL:L f=some lf)(hn:(a++args++b).length=lf.np)(ha:tA lf (a++args++b)=false)
  (h:Wp L lf.body ⟨fun i=>(a++args++b).getD i (.tup []),en,cnt⟩ fun e st=>e.ends=true/\ match cY (pM st) lf.res with|some vs=>Q (aBi vs) st.en st.cnt|none=>False) (hz:lf.nrm=[]:=by rfl):WIn L (.fn f a b) args en cnt Q:=by
 obtain⟨e,st,⟨n1,h1⟩,he,h2⟩:=aF9 _ h
 split at h2
 ·rename_i vs hvs
  refine⟨_,_,_,⟨n1,fun n hm fr=>?_⟩,h2⟩
  simp only[Inl.call,fH,aBy,lL,hL,hn,if_true,ha,bS0,if_false,h1 n hm,he,hvs,Option.map,hz,norms]
 ·exact h2.elim
def cU (en:En):Val->Option (Val×List Key)
 | .ptr k off=>some (.ptr k off,[])
 |v=>match snapD 8 en v with
  |some r=>some (r.1.wk0,r.2)
  |none=>none
def wE (en:En)(k:Key):Option En:=
 match en k with
 |some (.box cs false)=>match cY (cU en) cs with
  |some rs=>if(rs.flatMap (·.2)).contains k then none else some ((W.applyAll en ((rs.flatMap (·.2)).map .frz)).set k (some (.box (rs.map (·.1)) false)))
  |none=>none
 |_=>none
def pB (x:Val):List (List Nat)->En->Option En
 |[],en=>some en
 |p::ps,en=>match aS9 en p x with
  |some k=>match wE en k with
   |some en'=>pB x ps en'
   |none=>none
  |none=>none
theorem aRn {r:Val×List Key}(h:cU en v=some r):aFs en v=some r:=by
 cases v<;>simp only[cU,aFs]at h⊢ <;>first
  |exact h
  |(split at h
    case h_2=>cases h
    rename_i r' hr;rw[wC en 8 _ _ hr 8 (bSx _)];exact h)
variable {en':En}
theorem aT3 {k:Key}(h:wE en k=some en'):aFt en k=some en':=by
 unfold wE at h;unfold aFt
 split at h
 ·rename_i cs hk;simp only[hk]
  split at h
  ·rename_i rs hrs;simp only[aCa (fun x y hx=>aRn hx) hrs];exact h
  ·cases h
 ·cases h
theorem aPt {x:Val}: ∀{ps:List (List Nat)} {en en':En},pB x ps en=some en'->norms x ps en=some en'
 |[],_,_,h=>h
 |p::ps,en,en',h=>by
  simp only[pB]at h;simp only[norms]
  split at h
  case h_2=>cases h
  rename_i k hk
  split at h
  case h_2=>cases h
  rename_i e1 h1;simp only[hk,aT3 h1];exact aPt h
theorem sU {L:bH}{b:List Val}(hL:L f=some lf)(hn:(a++args++b).length=lf.np)(ha:tA lf (a++args++b)=false)
  (h:Wp L lf.body ⟨fun i=>(a++args++b).getD i (.tup []),en,cnt⟩ fun e st=>e.ends=true/\ match cY (pM st) lf.res with|some vs=>(match pB ((a++args++b).getD 0 .dead) lf.nrm st.en with|some en'=>Q (aBi vs) en' st.cnt|none=>False)|none=>False):WIn L (.fn f a b) args en cnt Q:=by
 obtain⟨e,st,⟨n1,h1⟩,he,h2⟩:=aF9 _ h
 split at h2
 ·rename_i vs hvs
  split at h2
  ·rename_i en' hen
   refine⟨_,_,_,⟨n1,fun n hm fr=>?_⟩,h2⟩
   simp only[Inl.call,fH,aBy,lL,hL,hn,if_true,ha,bS0,if_false,h1 n hm,he,hvs,Option.map,aPt hen]
  ·exact h2.elim
 ·exact h2.elim
variable {fr:Nat->Val}
theorem aKy {L:bH}{k:Key}{a b:bB}
  (hk:en k=some (.loop fr ps a b .ready)) (hn:args.length=ps.length)
  (h:Wp L a ⟨aBx fr ps args,en,cnt⟩ fun e st=>e= .normal/\ match st.en k with
   |some (.loop fr1 ps1 a1 b1 .ready)=>Wp L b ⟨st.fr,st.en.set k (some (.loop fr1 ps1 a1 b1 .busy)),st.cnt⟩ fun e st=>match st.en k with
    |some (.loop fr2 ps2 a2 b2 .busy)=>e.calm=true/\ Q (.bool (decide (e= .normal))) (st.en.set k (some (.loop fr2 ps2 a2 b2 (if e= .normal then .ready else .done e)))) st.cnt
    |_=>False
   |_=>False):WIn L (.yld k) args en cnt Q:=by
 obtain⟨e,st,⟨n1,h1⟩,rfl,h2⟩:=aF9 _ h
 split at h2
 ·rename_i fr1 ps1 a1 b1 hk1;obtain⟨e2,st2,⟨n2,h3⟩,h4⟩:=aF9 _ h2
  split at h4
  ·rename_i hk2
   refine⟨_,_,_,⟨max n1 n2,fun n hm fr'=>?_⟩,h4.2⟩
   simp only[Inl.call,fH,aFq,hk,hn,if_true,h1 n (by omega),hk1,h3 n (by omega),hk2,h4.1]
  ·exact h4.elim
 ·exact h2.elim
theorem bLg {L:bH}(hL:L f=some lf)(hn:args.length=lf.np)(ha:tA lf args=false)
  (h:Wp L lf.body (start args) fun e st=>e= .panic v):PX L f args v:=by
 obtain⟨e,st,⟨n1,h1⟩,he⟩:=aF9 _ h;subst he;exact⟨n1,fun n hm=>by simp only[bIn,cT,hL,hn,ha,true_and,if_true,h1 n hm,and_self]⟩
theorem jK {L:bH}(hL:L f=some lf)(hn:args.length=lf.np)(ha:tA lf args=false)
  (h:Wp L lf.body ⟨fun i=>args.getD i (.tup []),en,cnt⟩ fun e st=>match e with| .panic v=>Q v st.en st.cnt|_=>False):xI L f args en cnt Q:=by
 obtain⟨e,st,⟨n1,h1⟩,he⟩:=aF9 _ h;cases e with
 |panic v=>exact⟨v,st.en,st.cnt,⟨n1,fun n hm fr=>by simp only[eL,hL,hn,ha,true_and,if_true,h1 n hm,and_self]⟩,he⟩
 |_=>exact he.elim
variable {dst:Option Nat}
theorem uW {L:bH}{b:List Val}{c:bB}{e:Ex}{st3:St}{K:St->Prop}(hL:L g=some lf)(hb:lf.body= .rcv dst l c)(hv:e.rcvd=some v)(hn:(a++args++b).length=lf.np)(hr:lf.res=[])
  (h:jF L l ⟨iO (fun i=>(a++args++b).getD i (.tup [])) dst v,st3.en,st3.cnt⟩ fun st1=>Wp L c st1 fun e' st'=>e'.ends=true/\ K ⟨st3.fr,st'.en,st'.cnt⟩):
  ∃st4,(∃n0,∀n,n0<=n->iS L (exec L n) (.fn g a b) args e st3=some st4)/\ K st4:=by
 obtain⟨st1,⟨n0,h0⟩,h1⟩:=aCc l h;obtain⟨e',st',⟨n1,h2⟩,he,hk⟩:=aF9 c h1
 refine⟨_,⟨max n0 n1,fun n hm=>?_⟩,hk⟩
 have hr':=h0 n (by omega)
 simp only[mB]at hr';simp only[iS,hL,hb,hv,hn,hr,List.isEmpty_nil,and_self,if_true,hr',h2 n (by omega),he]
theorem bI9 {L:bH}{n:Nat}(h:mB L n f args=some r):PC L f args r:=⟨n,fun _ hm=>aB9 hm h⟩
variable {e:Option Ent}{k':Key}{g' n' t t' off size id:Nat}{u:Key->Bool}{ws:List W}{r':Option Res}{x c:Opd}{z a' xs vs ys:List Val}{k:IntKind}{b b' ok:Bool}{no yes:Prop}{v' f':Val}{K:Val->Prop}{o':Option (List (Val×List Key))}{ks:List Key}{s:ByteArray}
section
variable {L :bH}{Q:St->Prop}
@[go_sem] theorem g_t {i:Nat}:St.get fr (.t i)=fr i:=(rfl)
@[go_sem] theorem g_c :St.get fr (.c v)=v:=(rfl)
@[go_sem] theorem g_f {i:Nat}:St.get fr (.f i)= .fn i [] []:=(rfl)
@[go_sem] theorem bRi :jG fr d v d=v:=by simp[jG]
@[go_sem] theorem bRj {i:Nat}(h: ¬i=d):jG fr d v i=fr i:=by simp[jG,h]
@[go_sem] theorem bLh :iO fr (some d) v=jG fr d v:=(rfl)
@[go_sem] theorem bLi :iO fr none v=fr:=(rfl)
@[go_sem] theorem cM {k:Key}:En.set en k e k=e:=by simp[En.set]
theorem kG {k:Key}(h:k'≠k):En.set en k e k'=en k':=by simp[En.set,h]
@[go_sem] theorem bNb {n:Nat}(h: ¬t'=t):En.set en ⟨n,t,g⟩ e ⟨n',t',g'⟩=en ⟨n',t',g'⟩:=
 kG fun he=>h (by injection he)
@[go_sem] theorem aYg {n:Nat}(h: ¬g'=g):En.set en ⟨n,t,g⟩ e ⟨n',t',g'⟩=en ⟨n',t',g'⟩:=
 kG fun he=>h (by injection he)
@[go_sem] theorem bCo {n x:Nat}:aC cnt n t x n t=x:=by simp[aC]
@[go_sem] theorem bCp {n x:Nat}(h: ¬t'=t):aC cnt n t x n t'=cnt n t':=by simp[aC,h]
@[go_sem] theorem bRk (st:St):jF L [] st Q=Q st:=(rfl)
def LOp.plain :LOp->Bool
 | .call _ _| .icall _ _=>false
 |_=>true
def aL9 (L:bH)(l:List aN)(dst:Option Nat)(fr:Nat->Val)(en:En)(cnt:Nat->Nat->Nat)(Q:St->Prop):Option Res->Prop
 |some r=>(r.bump&&dst.isNone)=false/\ jF L l ⟨iO fr dst r.v,W.applyAll en r.ws,if r.bump then aC cnt 0 (dst.getD 0) (cnt 0 (dst.getD 0)+1)else cnt⟩ Q
 |none=>False
@[go_sem] theorem aPu {rs:List R}{m:Option (En×(Nat->Nat->Nat))}:
  aL9 L l dst fr en cnt Q (some ⟨v,ws,rs,false,m,u⟩)=jF L l ⟨iO fr dst v,W.applyAll en ws,cnt⟩ Q:=by simp[aL9]
@[go_sem] theorem aIb {rs:List R}{m:Option (En×(Nat->Nat->Nat))}:
  aL9 L l (some d) fr en cnt Q (some ⟨v,ws,rs,true,m,u⟩)=jF L l ⟨jG fr d v,W.applyAll en ws,aC cnt 0 d (cnt 0 d+1)⟩ Q:=by simp[aL9,iO]
@[go_sem] theorem bKi :aL9 L l dst fr en cnt Q none=False:=(rfl)
@[congr] theorem bJa {r:Option Res}(h:r=r'):aL9 L l dst fr en cnt Q r=aL9 L l dst fr en cnt Q r':=by rw[h]
@[congr] theorem bJb :jF L l st Q=jF L l st Q:=(rfl)
theorem aT4 (h:op.plain=true):jF L (⟨dst,op,none⟩::l) ⟨fr,en,cnt⟩ Q=
  aL9 L l dst fr en cnt Q (dG (dst.getD 0) (cnt 0 (dst.getD 0)) en (St.get fr) op):=by
 cases op<;>first|(simp[LOp.plain]at h;done)|rfl|(simp only[jF,pG,wanted,WOp];rfl)
@[go_sem] theorem bPc (h:op.plain=true):jF L (⟨some d,op,none⟩::l) ⟨fr,en,cnt⟩ Q=
  aL9 L l (some d) fr en cnt Q (dG d (cnt 0 d) en (St.get fr) op):=aT4 h
@[go_sem] theorem bPd (h:op.plain=true):jF L (⟨none,op,none⟩::l) ⟨fr,en,cnt⟩ Q=
  aL9 L l none fr en cnt Q (dG 0 (cnt 0 0) en (St.get fr) op):=aT4 h
@[go_sem] theorem bRl :LOp.plain (.mv x)=true:=(rfl)
@[go_sem] theorem bNc {a b:Opd}:LOp.plain (.pick a b c)=true:=(rfl)
@[go_sem] theorem bLj :LOp.plain (.alloc z)=true:=(rfl)
@[go_sem] theorem bPe {n:Nat}:LOp.plain (.box n x)=true:=(rfl)
@[go_sem] theorem bLk {p:List (Nat×Nat×Opd)}:LOp.plain (.build z p)=true:=(rfl)
@[go_sem] theorem bKj {a b:Nat}{p:List (Nat×Opd)}:LOp.plain (.bslice a b z p)=true:=(rfl)
@[go_sem] theorem bNd {a:Bool}{n:Nat}:LOp.plain (.load a n x)=true:=(rfl)
@[go_sem] theorem bLl {n:Nat}{y:Opd}:LOp.plain (.store n x y)=true:=(rfl)
@[go_sem] theorem bLm :LOp.plain (.nilck x)=true:=(rfl)
@[go_sem] theorem bPf {b:BinOp}{t:EqT}{y:Opd}:LOp.plain (.bin b t x y)=true:=(rfl)
@[go_sem] theorem bRm {u:UnOp}:LOp.plain (.un u x)=true:=(rfl)
@[go_sem] theorem bNe :LOp.plain (.wrap k x)=true:=(rfl)
@[go_sem] theorem bLn :LOp.plain (.iface t x)=true:=(rfl)
@[go_sem] theorem bKk {z:Val}:LOp.plain (.assert t z b x)=true:=(rfl)
@[go_sem] theorem bNf {a b:List Opd}:LOp.plain (.mkfn f a b)=true:=(rfl)
@[go_sem] theorem bLo  :LOp.plain (.mkmap)=true:=(rfl)
@[go_sem] theorem bNg {t:EqT}{a b:Opd}:LOp.plain (.mput t a b c)=true:=(rfl)
@[go_sem] theorem bNh {t:EqT}{z:Val}{y:Opd}:LOp.plain (.mget t z b x y)=true:=(rfl)
@[go_sem] theorem bLp {n:Nat}{y:Opd}:LOp.plain (.mklen n z x y)=true:=(rfl)
@[go_sem] theorem bLq {n:Nat}{l h m:Option Opd}:LOp.plain (.slice b n x l h m)=true:=(rfl)
@[go_sem] theorem bRn {n:Nat}:LOp.plain (.fa n x)=true:=(rfl)
@[go_sem] theorem bPg {n:Nat}:LOp.plain (.fld b n m x)=true:=(rfl)
@[go_sem] theorem bRo {n:Nat}{y:Opd}:LOp.plain (.ia n x y)=true:=(rfl)
@[go_sem] theorem bPh {y:Opd}:LOp.plain (.ixs x y)=true:=(rfl)
@[go_sem] theorem bPi {n:Nat}{y:Opd}:LOp.plain (.ixa b n m x y)=true:=(rfl)
@[go_sem] theorem bPj {n:Nat}:LOp.plain (.ext n x)=true:=(rfl)
@[go_sem] theorem bPk {t:EqT}:LOp.plain (.len t x)=true:=(rfl)
theorem bW {n:Nat}{y:Opd}:LOp.plain (.append n x y)=true:=(rfl)
@[go_sem] theorem bKl {l:List Opd}:LOp.plain (.minmax b l)=true:=(rfl)
@[go_sem] theorem bPl :LOp.plain (.rng x)=true:=(rfl)
@[go_sem] theorem bPm :LOp.plain (.nxt x)=true:=(rfl)
def rD (v:Val)(b:Bool)(yes no:Prop):Prop:=
 match v with
 | .bool b'=>if(b'==b)=true then yes else no
 | .tup []=>no
 |_=>False
@[congr] theorem bHm (h:v=v'):rD v b yes no=rD v' b yes no:=by rw[h]
@[go_sem] theorem bF1 :jF L (⟨dst,op,some (t,b)⟩::l) ⟨fr,en,cnt⟩ Q=
  rD (fr t) b (jF L (⟨dst,op,none⟩::l) ⟨fr,en,cnt⟩ Q) (jF L l ⟨iO fr dst (.tup []),en,cnt⟩ Q):=by
 simp only[jF,pG,wanted,rD]
 split<;>rename_i h
 ·split at h
  ·rename_i b' hb;simp only[bSv]at h;simp only[hb,h,if_true]
  ·cases h
  ·cases h
 ·split at h
  ·rename_i b' hb;simp only[bSv]at h;simp only[hb,h,bS0,if_false]
  ·rename_i hb;simp only[hb]
  ·cases h
 ·split at h
  ·cases h
  ·cases h
  ·rename_i h1 h2;split
   ·rename_i b' hb;exact absurd hb (h1 _)
   ·rename_i hb;exact absurd hb h2
   ·rfl
@[go_sem] theorem bLr :rD (.bool true) true yes no=yes:=(rfl)
@[go_sem] theorem bLs :rD (.bool false) false yes no=yes:=(rfl)
@[go_sem] theorem bLt :rD (.bool true) false yes no=no:=(rfl)
@[go_sem] theorem bLu :rD (.bool false) true yes no=no:=(rfl)
@[go_sem] theorem bLv :rD (.tup []) b yes no=no:=(rfl)
theorem bD (h:b=b'->yes)(k:b=!b'->no):rD (.bool b) b' yes no:=by
 cases b<;>cases b'<;>first|exact h rfl|exact k rfl
@[congr] theorem bKm {f:Val}{K:Val->En->(Nat->Nat->Nat)->Prop}(h:f=f')(h':a=a'):WIn L f a en cnt K=WIn L f' a' en cnt K:=by rw[h,h']
@[go_sem] theorem bNi {f:Opd}{args:List Opd}:jF L (⟨dst,.icall f args,none⟩::l) ⟨fr,en,cnt⟩ Q=
  WIn L (St.get fr f) (args.map (St.get fr)) en cnt fun v en' cnt'=>jF L l ⟨iO fr dst v,en',cnt'⟩ Q:=(rfl)
def aT5 (L:bH)(f:Nat)(args:List Val)(K:Val->Prop):Prop:= ∃r,PC L f args r/\ K r
@[congr] theorem bJc (h:a=a'):aT5 L f a K=aT5 L f a' K:=by rw[h]
theorem _root_.Go.Abs.PC.ret {L:bH}(h:PC L f args r):aT5 L f args K=K r:=
 propext ⟨fun⟨s,h1,h2⟩=>h.det h1▸h2,fun h2=>⟨r,h,h2⟩⟩
def aJh (L:bH)(f:Nat)(o:Option (List (Val×List Key)))(K:Val->List Key->Prop):Prop:=
 match o with
 |some rs=>aT5 L f (rs.map (·.1.wk1)) fun r=>K r (rs.flatMap (·.2))
 |none=>False
@[congr] theorem bHn {o:Option (List (Val×List Key))}{K:Val->List Key->Prop}(h:o=o'):aJh L f o K=aJh L f o' K:=by rw[h]
@[go_sem] theorem bRp {rs:List (Val×List Key)}{K:Val->List Key->Prop}:aJh L f (some rs) K=aT5 L f (rs.map (·.1.wk1)) fun r=>K r (rs.flatMap (·.2)):=(rfl)
def aD9 (L:bH)(en:En)(f:Val)(args:List Val)(K:Val->List Key->Prop):Prop:=
 match f with
 | .fn f a b=>aJh L f (cY (snapD 8 en) (a++args++b)) K
 |_=>False
@[congr] theorem bHo {f:Val}{K:Val->List Key->Prop}(h:f=f')(h':a=a'):aD9 L en f a K=aD9 L en f' a' K:=by rw[h,h']
@[go_sem] theorem bPn {f:Opd}{args:List Opd}:jF L (⟨dst,.call f args,none⟩::l) ⟨fr,en,cnt⟩ Q=
  aD9 L en (St.get fr f) (args.map (St.get fr)) fun r ks=>aL9 L l dst fr en cnt Q (some (iJ 0 (dst.getD 0) (cnt 0 (dst.getD 0)) r ks)):=by
 simp only[jF,pG,wanted,WOp,aD9,aJh,aT5];cases St.get fr f<;>first|rfl|skip
@[go_sem] theorem bRq {b:List Val}{K:Val->List Key->Prop}:aD9 L en (.fn f a b) args K=aJh L f (cY (snapD 8 en) (a++args++b)) K:=(rfl)
def rF :Val->Bool
 | .own _ _=>true
 |_=>false
@[go_sem] theorem bHp {sz:Nat}:iJ me d g (.own sz xs) ks=
  {v:= .bl ⟨me,d,g⟩ 0 xs.length,ws:=(if xs.all Val.flat1 then []else ks.map .frz)++[.ent ⟨me,d,g⟩ (some (.blk sz xs false))],rs:=ks.map .val,bump:=true}:=(rfl)
@[go_sem] theorem bHq (h:rF v=false):iJ me d g v ks={v,ws:=if v.flat then []else ks.map .frz,rs:=ks.map .val}:=by
 cases v<;>first|rfl|cases h
section
variable {i:Int}{x:ByteArray}
@[go_sem] theorem bPo :rF (.int k i)=false:=(rfl)
@[go_sem] theorem bNj :rF (.bool b)=false:=(rfl)
@[go_sem] theorem bPp :rF (.str x)=false:=(rfl)
@[go_sem] theorem bRr :rF (.fz xs)=false:=(rfl)
@[go_sem] theorem bRs :rF (.cl xs)=false:=(rfl)
@[go_sem] theorem bPq :rF (.agg xs)=false:=(rfl)
@[go_sem] theorem bPr :rF (.tup xs)=false:=(rfl)
@[go_sem] theorem bRt :rF (.fp xs m)=false:=(rfl)
@[go_sem] theorem bRu :rF (.fn m xs ys)=false:=(rfl)
@[go_sem] theorem bNk :rF .nili=false:=(rfl)
@[go_sem] theorem bPs :rF (.ifc m v)=false:=(rfl)
end
@[go_sem] theorem aGa {α β:Type}{f:α->Option β}:cY f []=some []:=(rfl)
@[go_sem] theorem aDo {α β:Type}{f:α->Option β}{x:α}{xs:List α}:cY f (x::xs)=(match f x with|some y=>(match cY f xs with|some ys=>some (y::ys)|none=>none)|none=>none):=(rfl)
@[go_sem] theorem bKn {cs:List Val}:jH true cs=some (.agg cs):=(rfl)
@[go_sem] theorem bKo :jH false [v]=some v:=(rfl)
attribute [go_sem] o og on ong
def aCd (cs:List Val)(off:Nat):Option Val:=cs[off]?
@[go_sem] theorem bLw {cs:List Val}:aCd (v::cs) 0=some v:=(rfl)
@[go_sem] theorem bLx {cs:List Val}{n:Nat}:aCd (v::cs) (n+1)=aCd cs n:=(rfl)
section
@[go_sem] theorem bRv {x:Opd}:dG d g en get (.mv x)=some {v:=get x}:=(rfl)
def aRo (c a b:Val):Option Res:=match c with| .bool t=>some {v:=if t then a else b}|_=>none
@[go_sem] theorem bNl {a b:Opd}:dG d g en get (.pick c a b)=aRo (get c) (get a) (get b):=(rfl)
@[go_sem] theorem bPt {a b:Val}:aRo (.bool true) a b=some {v:=a}:=(rfl)
@[go_sem] theorem bPu {a b:Val}:aRo (.bool false) a b=some {v:=b}:=(rfl)
@[go_sem] theorem bPv {t a:Bool}:aRo (.bool t) (.bool a) (.bool b)=some {v:= .bool (if t then a else b)}:=by cases t<;>rfl
@[go_sem] theorem bLy :dG d g en get (.alloc z)=some {v:= .ptr ⟨0,d,g⟩ 0,ws:=[.ent ⟨0,d,g⟩ (some (.box z false))],bump:=true}:=(rfl)
def rG (d g m:Nat)(x:Val):Option Res:=if x.one=true/\ x.cells.length=m then some {v:= .ptr ⟨0,d,g⟩ 0,ws:=[.ent ⟨0,d,g⟩ (some (.box x.cells false))],bump:=true}else none
@[go_sem] theorem bPw {x:Opd}:dG d g en get (.box m x)=rG d g m (get x):=(rfl)
@[go_sem] theorem bNm {cs:List Val}(h:cs.length=m):rG d g m (.agg cs)=some {v:= .ptr ⟨0,d,g⟩ 0,ws:=[.ent ⟨0,d,g⟩ (some (.box cs false))],bump:=true}:=by simp[rG,Val.one,Val.cells,h]
@[go_sem] theorem bNn {n:Int}:rG d g 1 (.int k n)=some {v:= .ptr ⟨0,d,g⟩ 0,ws:=[.ent ⟨0,d,g⟩ (some (.box [.int k n] false))],bump:=true}:=by simp[rG,Val.one,Val.cells]
@[go_sem] theorem bLz :rG d g 1 (.bool b)=some {v:= .ptr ⟨0,d,g⟩ 0,ws:=[.ent ⟨0,d,g⟩ (some (.box [.bool b] false))],bump:=true}:=by simp[rG,Val.one,Val.cells]
@[go_sem] theorem bNo {b:ByteArray}:rG d g 1 (.str b)=some {v:= .ptr ⟨0,d,g⟩ 0,ws:=[.ent ⟨0,d,g⟩ (some (.box [.str b] false))],bump:=true}:=by simp[rG,Val.one,Val.cells]
@[go_sem] theorem bPx :rG d g 1 (.fz xs)=some {v:= .ptr ⟨0,d,g⟩ 0,ws:=[.ent ⟨0,d,g⟩ (some (.box [.fz xs] false))],bump:=true}:=by simp[rG,Val.one,Val.cells]
@[go_sem] theorem bPy {i:Nat}:rG d g 1 (.fp xs i)=some {v:= .ptr ⟨0,d,g⟩ 0,ws:=[.ent ⟨0,d,g⟩ (some (.box [.fp xs i] false))],bump:=true}:=by simp[rG,Val.one,Val.cells]
@[go_sem] theorem bNp {k:Key}{i:Nat}:rG d g 1 (.ptr k i)=some {v:= .ptr ⟨0,d,g⟩ 0,ws:=[.ent ⟨0,d,g⟩ (some (.box [.ptr k i] false))],bump:=true}:=by simp[rG,Val.one,Val.cells]
@[go_sem] theorem bPz {b:List Val}:rG d g 1 (.fn f a b)=some {v:= .ptr ⟨0,d,g⟩ 0,ws:=[.ent ⟨0,d,g⟩ (some (.box [.fn f a b] false))],bump:=true}:=by simp[rG,Val.one,Val.cells]
@[go_sem] theorem bL0 {ps:List (Nat×Nat×Opd)}:dG d g en get (.build z ps)=(tX z (ps.map fun p=>(p.1,p.2.1,get p.2.2))).map fun cs=>{v:= .agg cs}:=(rfl)
@[go_sem] theorem bNq {agg:Bool}{a:Opd}:dG d g en get (.load agg m a)=(match sI en (get a) m with|some (cs,rs)=>(jH agg cs).map fun v=>{v,rs}|none=>none):=(rfl)
@[go_sem] theorem bP0 {op:BinOp}{t:EqT}{x y:Opd}:dG d g en get (.bin op t x y)=(cW op t (get x) (get y)).map fun v=>{v}:=(rfl)
def bCq (x:Val):Option Res:=match x with| .bool b=>some {v:= .bool !b}|_=>none
def bCr (x:Val):Option Res:=match x with| .int k a=>some {v:= .int k (k.wrap (0-a))}|_=>none
@[go_sem] theorem bP1 {x:Opd}:dG d g en get (.un .not x)=bCq (get x):=by
 simp only[dG,eval,bCq];cases get x<;>rfl
@[go_sem] theorem bP2 {x:Opd}:dG d g en get (.un .neg x)=bCr (get x):=by
 simp only[dG,eval,bCr];cases get x<;>rfl
@[go_sem] theorem bRw :bCq (.bool b)=some {v:= .bool !b}:=(rfl)
@[go_sem] theorem bRx {a:Int}:bCr (.int k a)=some {v:= .int k (k.wrap (0-a))}:=(rfl)
def bCs (k:IntKind)(x:Val):Option Res:=match x with| .int _ a=>some {v:= .int k (k.wrap a)}|_=>none
@[go_sem] theorem bNr {x:Opd}:dG d g en get (.wrap k x)=bCs k (get x):=(rfl)
@[go_sem] theorem bP3 {j:IntKind}{a:Int}:bCs k (.int j a)=some {v:= .int k (k.wrap a)}:=(rfl)
@[go_sem] theorem bL1 {x:Opd}:dG d g en get (.iface t x)=if(get x).one=true then some {v:= .ifc t (get x)}else none:=(rfl)
def aGb (t:Nat)(z:Val)(ok:Bool)(x:Val):Option Res:=match x with
 | .ifc t' v=>if t'=t then some {v:=if ok then .tup [v,.bool true]else v}else if ok then some {v:= .tup [z,.bool false]}else none
 | .nili=>if ok then some {v:= .tup [z,.bool false]}else none
 |_=>none
@[go_sem] theorem bKp {z:Val}{x:Opd}:dG d g en get (.assert t z ok x)=aGb t z ok (get x):=(rfl)
@[go_sem] theorem bJd {z:Val}:aGb t z true (.ifc t' v)=some {v:=if t'=t then .tup [v,.bool true]else .tup [z,.bool false]}:=by
 simp only[aGb];split<;>simp
@[go_sem] theorem bJe {z:Val}:aGb t z true .nili=some {v:= .tup [z,.bool false]}:=(rfl)
@[go_sem] theorem bNs {a b:List Opd}:dG d g en get (.mkfn f a b)=some {v:= .fn f (a.map get) (b.map get)}:=(rfl)
@[go_sem] theorem bL2 :dG d g en get .mkmap=some {v:= .mp ⟨0,d,g⟩,ws:=[.ent ⟨0,d,g⟩ (some (.map [] [] false))],bump:=true}:=(rfl)
def aMa (t:EqT)(en:En)(x:Val):Option Res:=match t with
  | .map=>match x with
   | .mp key=>match en key with
    |some (.map ks _ _)=>some {v:= .int .i64 ks.length,rs:=[.val key]}
    |_=>none
   | .fm ks _=>some {v:= .int .i64 ks.length}
   | .nilm=>some {v:= .int .i64 0}
   |_=>none
  | .str=>match x with
   | .str s=>some {v:= .int .i64 s.size}
   |_=>none
  | .slice=>(uC x).map fun m=>{v:= .int .i64 m}
  |_=>none
@[go_sem] theorem bP4 {t:EqT}{x:Opd}:dG d g en get (.len t x)=aMa t en (get x):=(rfl)
@[go_sem] theorem bRy {x:Val}:aMa .slice en x=(uC x).map fun(m:Nat)=>{v:= .int .i64 (m:Int)}:=by simp only[aMa];cases uC x<;>rfl
@[go_sem] theorem bNt :aMa .str en (.str s)=some {v:= .int .i64 s.size}:=(rfl)
@[go_sem] theorem bL3 :aMa .map en .nilm=some {v:= .int .i64 0}:=(rfl)
@[go_sem] theorem bP5 {ks:List Val}:aMa .map en (.fm ks vs)=some {v:= .int .i64 ks.length}:=(rfl)
@[go_sem] theorem bL4 :uC (.fz xs)=some xs.length:=(rfl)
@[go_sem] theorem bL5 :uC (.cl xs)=some xs.length:=(rfl)
@[go_sem] theorem bL6 {k:Key}{o n:Nat}:uC (.bl k o n)=some n:=(rfl)
def bHr (i:Nat)(x:Val):Option Res:=match x with| .tup vs=>(vs[i]?).map fun v=>{v}|_=>none
@[go_sem] theorem bP6 {i:Nat}{x:Opd}:dG d g en get (.ext i x)=bHr i (get x):=(rfl)
@[go_sem] theorem bNu {i:Nat}:bHr i (.tup vs)=(aCd vs i).map fun v=>{v}:=(rfl)
def bF2 (off:Nat)(x:Val):Option Res:=match x with
  | .fp cs o=>some {v:= .fp cs (o+off)}
  | .ptr k o=>some {v:= .ptr k (o+off)}
  | .ep k i o=>some {v:= .ep k i (o+off)}
  |_=>none
@[go_sem] theorem bRz {x:Opd}:dG d g en get (.fa off x)=bF2 off (get x):=(rfl)
@[go_sem] theorem bR0 {o:Nat}{cs:List Val}:bF2 off (.fp cs o)=some {v:= .fp cs (o+off)}:=(rfl)
@[go_sem] theorem bP7 {o:Nat}{k:Key}:bF2 off (.ptr k o)=some {v:= .ptr k (o+off)}:=(rfl)
@[go_sem] theorem bR1 {o i:Nat}{k:Key}:bF2 off (.ep k i o)=some {v:= .ep k i (o+off)}:=(rfl)
def mH (size:Nat)(en:En)(x i:Val):Option Res:=match i with
  | .int _ j=>
   match x with
   | .fz xs| .cl xs=>if 0<=j then match xs[j.toNat]? with
     |some y=>if y.cells.length=size then some {v:= .fp y.cells 0}else none
     |none=>none else none
   | .bl k off len=>match en k with
    |some (.blk sz _ _)=>if 0<=j/\ j<len/\ sz=size then some {v:= .ep k (off+j.toNat) 0,rs:=[.val k]}else none
    |_=>none
   |_=>none
  |_=>none
@[go_sem] theorem bR2 {x i:Opd}:dG d g en get (.ia size x i)=mH size en (get x) (get i):=by
 simp only[dG,eval,mH];cases get i<;>rfl
theorem bL7 {y:Val}(h:xs[j]?=some y)(hs:y.cells.length=size):mH size en (.fz xs) (.int k j)=some {v:= .fp y.cells 0}:=by
 simp[mH,h,hs]
@[go_sem] theorem aW3 {α:Type}{f:α->Val}{l:List α}(h:j<l.length)(hs:((f l[j]).cells.length==size)=true):mH size en (.fz (l.map f)) (.int k j)=some {v:= .fp (f l[j]).cells 0}:=
 bL7 (by simp[h]) (by simpa using hs)
@[go_sem] theorem bKq {len:Nat}{ps:List (Nat×Opd)}:dG d g en get (.bslice len size z ps)=
  if len*size<=16777216 then
   match cY (fun p=>match snapD 8 en (get p.2)with|some r=>some ((p.1,r.1.wk1),r.2)|none=>none) ps with
   |some ps=>match iF (List.replicate len (nN size z false)) size (ps.map (·.1))with
    |some xs=>some {v:= .cl xs,ws:=(ps.flatMap (·.2)).map .frz,rs:=(ps.flatMap (·.2)).map .val}
    |none=>none
   |none=>none
  else none:=(rfl)
def aCe (mx:Bool)(xs:List Val):Option Res:=match xs with
  |[.int j a,.int k b]=>if j=k then some {v:= .int j (if mx then(if b>a then b else a)else(if b<a then b else a))}else none
  |_=>none
@[go_sem] theorem bKr {mx:Bool}{xs:List Opd}:dG d g en get (.minmax mx xs)=aCe mx (xs.map get):=(rfl)
@[go_sem] theorem bR3 {a b:Int}:aCe true [.int k a,.int k b]=some {v:= .int k (max a b)}:=by
 simp only[aCe,if_true,bSv,Res.mk.injEq,Val.int.injEq,true_and,and_true];omega
@[go_sem] theorem bR4 {a b:Int}:aCe false [.int k a,.int k b]=some {v:= .int k (min a b)}:=by
 simp only[aCe,if_true,bS0,if_false,bSv,Res.mk.injEq,Val.int.injEq,true_and,and_true];omega
def aGc (x:Val):Option Res:=match x with
  | .fp cs off=>some {v:= .fp cs off}
  | .ptr k off=>some {v:= .ptr k off}
  | .ep k i off=>some {v:= .ep k i off}
  | .fn f a b=>some {v:= .fn f a b}
  | .ifc t v=>some {v:= .ifc t v}
  |_=>none
@[go_sem] theorem bL8 {x:Opd}:dG d g en get (.nilck x)=aGc (get x):=(rfl)
@[go_sem] theorem bL9 {cs:List Val}{o:Nat}:aGc (.fp cs o)=some {v:= .fp cs o}:=(rfl)
@[go_sem] theorem bKs {k:Key}{o:Nat}:aGc (.ptr k o)=some {v:= .ptr k o}:=(rfl)
@[go_sem] theorem bMa {b:List Val}:aGc (.fn f a b)=some {v:= .fn f a b}:=(rfl)
@[go_sem] theorem bKt :aGc (.ifc t v)=some {v:= .ifc t v}:=(rfl)
end
@[go_sem] theorem bKu :iF xs size []=some xs:=(rfl)
@[go_sem] theorem bJf {i:Nat}{rest:List (Nat×Val)}(h1:v.one=true)(h2:v.cells.length=size)(h3:i<xs.length):iF xs size ((i,v)::rest)=iF (xs.set i v) size rest:=by
 simp only[iF,h1,h2,h3,and_self,if_true]
@[go_sem] theorem bR5 {z:Val}:List.replicate 0 z=[]:=(rfl)
@[go_sem] theorem bR6 {z:Val}:List.replicate 1 z=[z]:=(rfl)
@[go_sem] theorem bR7 {z:Val}:List.replicate 2 z=[z,z]:=(rfl)
@[go_sem] theorem bR8 {z:Val}:List.replicate 3 z=[z,z,z]:=(rfl)
@[go_sem] theorem bR9 {z:Val}:List.replicate 4 z=[z,z,z,z]:=(rfl)
@[go_sem] theorem bSa {z:Val}:List.replicate 5 z=[z,z,z,z,z]:=(rfl)
@[go_sem] theorem bMb {cs:List Val}:tX cs []=some cs:=(rfl)
@[go_sem] theorem bKv {cs:List Val}{rest:List (Nat×Nat×Val)}(h1:v.one=true)(h2:v.cells.length=size)(h3:off+size<=cs.length):tX cs ((off,size,v)::rest)=tX (setCells cs off v.cells) rest:=by
 simp only[tX,h1,h2,h3,and_self,if_true]
@[go_sem] theorem bNv {cs:List Val}:setCells cs off []=cs:=(rfl)
@[go_sem] theorem bMc {cs:List Val}:setCells cs off (v::vs)=setCells (cs.set off v) (off+1) vs:=(rfl)
attribute [go_sem] bU0 bU1
@[go_sem] theorem bP8 {j:Int}:mH size en (.cl xs) (.int k j)=if 0<=j then(match aCd xs j.toNat with|some y=>if y.cells.length=size then some {v:= .fp y.cells 0}else none|none=>none)else none:=(rfl)
section
variable {a b:Int}
@[go_sem] theorem bNw :cW .add .num (.int k a) (.int k b)=some (.int k (k.wrap (a+b))):=by simp[cW,vJ]
@[go_sem] theorem bNx :cW .sub .num (.int k a) (.int k b)=some (.int k (k.wrap (a-b))):=by simp[cW,vJ]
@[go_sem] theorem bNy :cW .mul .num (.int k a) (.int k b)=some (.int k (k.wrap (a*b))):=by simp[cW,vJ]
@[go_sem] theorem bNz :cW .quo .num (.int k a) (.int k b)=if b=0 then none else some (.int k (k.wrap (a.tdiv b))):=by simp[cW,vJ]
@[go_sem] theorem bN0 :cW .rem .num (.int k a) (.int k b)=if b=0 then none else some (.int k (a.tmod b)):=by simp[cW,vJ]
@[go_sem] theorem bN1 :cW .lss .num (.int k a) (.int k b)=some (.bool (decide (a<b))):=by simp[cW,vJ]
@[go_sem] theorem bN2 :cW .leq .num (.int k a) (.int k b)=some (.bool (decide (a<=b))):=by simp[cW,vJ]
@[go_sem] theorem bN3 :cW .gtr .num (.int k a) (.int k b)=some (.bool (decide (b<a))):=by simp[cW,vJ]
@[go_sem] theorem bN4 :cW .geq .num (.int k a) (.int k b)=some (.bool (decide (b<=a))):=by simp[cW,vJ]
@[go_sem] theorem bN5 :cW .eql .num (.int k a) (.int k b)=some (.bool (decide (a=b))):=by
 simp only[cW,oU,if_true,bTr];congr 2
@[go_sem] theorem bN6 :cW .neq .num (.int k a) (.int k b)=some (.bool (!decide (a=b))):=by
 simp only[cW,oU,if_true,bTr];congr 3
@[go_sem] theorem bN7 {x y:Bool}:cW .eql .bool (.bool x) (.bool y)=some (.bool (x==y)):=(rfl)
@[go_sem] theorem bN8 {x y:Bool}:cW .neq .bool (.bool x) (.bool y)=some (.bool (!(x==y))):=(rfl)
@[go_sem] theorem bN9 {x y:ByteArray}:cW .eql .str (.str x) (.str y)=some (.bool (x.toList==y.toList)):=(rfl)
@[go_sem] theorem bOa {x y:ByteArray}:cW .neq .str (.str x) (.str y)=some (.bool (!(x.toList==y.toList))):=(rfl)
end
@[go_sem] theorem gD :W.applyAll en []=en:=(rfl)
@[go_sem] theorem lF {w:W}:W.applyAll en (w::ws)=W.applyAll (w.apply en) ws:=(rfl)
@[go_sem] theorem zF {k:Key}:(W.ent k e).apply en=en.set k e:=(rfl)
theorem bMd (cs:List Val)(off:Nat):(if off+1<=cs.length then some ((cs.drop off).take 1)else none)=(cs[off]?).map fun v=>[v]:=by
 by_cases h:off<cs.length
 ·rw[if_pos (by omega),bTy h,bT2 h];rfl
 ·rw[if_neg (by omega),List.getElem?_eq_none (by omega)];rfl
theorem bMe (cs:List Val)(off:Nat)(rs:List R):(if off+1<=cs.length then some ((cs.drop off).take 1,rs)else none)=(aCd cs off).map fun v=>([v],rs):=by
 have:=bMd cs off;unfold aCd
 by_cases h:off+1<=cs.length
 ·rw[if_pos h]at this⊢;cases hc:cs[off]? with
  |none=>rw[hc]at this;cases this
  |some v=>rw[hc]at this;simp only[Option.map,bSv]at this⊢;rw[this]
 ·rw[if_neg h]at this⊢;cases hc:cs[off]? with
  |none=>rfl
  |some v=>rw[hc]at this;cases this
@[go_sem] theorem bMf {cs:List Val}:sI en (.fp cs off) 1=(aCd cs off).map fun v=>([v],[]):=bMe cs off []
@[go_sem] theorem bMg {k:Key}{n:Nat}:sI en (.ptr k off) n=(match en k with|some (.box cs _)=>if off+n<=cs.length then some ((cs.drop off).take n,[.cells k off n])else none|_=>none):=(rfl)
@[go_sem] theorem bOb {cs:List Val}{n:Nat}:sI en (.fp cs off) n=if off+n<=cs.length then some ((cs.drop off).take n,[])else none:=(rfl)
@[go_sem] theorem bF3 {α β:Type}{f:α->β}{x:α}:(some x).map f=some (f x):=(rfl)
@[go_sem] theorem bF4 {β:Type}{f:α->β}:(none:Option α).map f=none:=(rfl)
attribute [go_sem] bU2 List.drop_succ_cons bS2 bS3 bS8 bTd List.take_nil List.drop_nil
section
variable {R:Ex->St->Prop}
@[congr] theorem bMh {c:bB}:Wp L c st R=Wp L c st R:=(rfl)
@[go_sem] theorem bMi {c:bB}:Wp L c (start args) R=Wp L c ⟨fun i=>args.getD i (.tup []),fun _=>none,fun _ _=>0⟩ R:=(rfl)
@[go_sem] theorem bOc :Wp L .skip st R=R .normal st:=(rfl)
@[go_sem] theorem bP9 :Wp L (.ops l) st R=jF L l st (R .normal):=(rfl)
@[go_sem] theorem bOd :Wp L (.draw l []) st R=jF L l st (R .normal):=by simp[Wp]
theorem qW {a b:bB}:Wp L (.seq a b) st R=Wp L a st fun e st'=>match e with
  | .normal=>Wp L b st' R
  | .exit i=>R (.exit i) st'
  | .ret=>R .ret st'
  | .panic v=>R (.panic v) st':=(rfl)
def aMb (v:Val)(a b:Prop):Prop:=match v with| .bool t=>if t=true then a else b|_=>False
@[go_sem] theorem bOe {x:Opd}{a b:bB}:Wp L (.cond x a b) ⟨fr,en,cnt⟩ R=aMb (St.get fr x) (Wp L a ⟨fr,en,cnt⟩ R) (Wp L b ⟨fr,en,cnt⟩ R):=(rfl)
@[congr] theorem bHs {a b:Prop}(h:v=v'):aMb v a b=aMb v' a b:=by rw[h]
@[go_sem] theorem bOf {a b:Prop}:aMb (.bool true) a b=a:=(rfl)
@[go_sem] theorem bOg {a b:Prop}:aMb (.bool false) a b=b:=(rfl)
theorem aZ {t:Bool}{a b:Prop}(h:t=true->a)(k:t=false->b):aMb (.bool t) a b:=by cases t<;>first|exact h rfl|exact k rfl
@[go_sem] theorem bMj {b:bB}:Wp L (.block id b) st R=Wp L b st fun e st'=>match e with
  | .exit id'=>if id'=id then R .normal st' else R (.exit id') st'
  | .normal=>R .normal st'
  | .ret=>R .ret st'
  | .panic v=>R (.panic v) st':=(rfl)
@[go_sem] theorem bQa :Ex.calm .normal=true:=(rfl)
@[go_sem] theorem bQb :Ex.calm .ret=true:=(rfl)
@[go_sem] theorem bQc :Ex.calm (.exit id)=true:=(rfl)
@[go_sem] theorem bOh :Wp L (.exit id) st R=R (.exit id) st:=(rfl)
@[go_sem] theorem bQd :Wp L .ret st R=R .ret st:=(rfl)
end
attribute [go_sem] Ex.ends bCn pM aBi aX3 and_true bVx List.getD_cons_succ List.getD_nil bTv bTe bT1 bT4 bVh bVk bU3
 not_false_eq_true not_true_eq_false ne_eq bTr bVd List.all_nil true_and and_true bUc bTo bT6 bTk if_true if_false bS0 bS6 bTf bTw bUk
section
variable {i:Int}{x:ByteArray}
@[go_sem] theorem bQe :Val.wk (.int k i)= .int k i:=(rfl)
@[go_sem] theorem bOi :Val.wk (.bool b)= .bool b:=(rfl)
@[go_sem] theorem bQf :Val.wk (.str x)= .str x:=(rfl)
@[go_sem] theorem bSb :Val.wk (.fz xs)= .fz xs:=(rfl)
@[go_sem] theorem bSc :Val.wk (.cl xs)= .fz xs:=(rfl)
@[go_sem] theorem bSd :Val.wk (.fp xs m)= .fp xs m:=(rfl)
@[go_sem] theorem bSe :Val.wk (.fn m xs ys)= .fn m xs ys:=(rfl)
@[go_sem] theorem bOj :Val.wk .nili= .nili:=(rfl)
@[go_sem] theorem bOk :Val.wk .nilp= .nilp:=(rfl)
@[go_sem] theorem bQg :Val.wk (.ifc m v)= .ifc m v:=(rfl)
@[go_sem] theorem bSf :Val.wk (.fm xs ys)= .fm xs ys:=(rfl)
@[go_sem] theorem bQh :Val.wk (.agg xs)= .agg (xs.map Val.wk0):=(rfl)
@[go_sem] theorem bQi :Val.wk (.tup xs)= .tup (xs.map Val.wk1):=(rfl)
@[go_sem] theorem bOl :Val.wk1 (.int k i)= .int k i:=(rfl)
@[go_sem] theorem bMk :Val.wk1 (.bool b)= .bool b:=(rfl)
@[go_sem] theorem bOm :Val.wk1 (.str x)= .str x:=(rfl)
@[go_sem] theorem bQj :Val.wk1 (.fz xs)= .fz xs:=(rfl)
@[go_sem] theorem bQk :Val.wk1 (.cl xs)= .fz xs:=(rfl)
@[go_sem] theorem bQl :Val.wk1 (.fp xs m)= .fp xs m:=(rfl)
@[go_sem] theorem bQm :Val.wk1 (.fn m xs ys)= .fn m xs ys:=(rfl)
@[go_sem] theorem bMl :Val.wk1 .nili= .nili:=(rfl)
@[go_sem] theorem bMm :Val.wk1 .nilp= .nilp:=(rfl)
@[go_sem] theorem bMn :Val.wk1 .nilm= .nilm:=(rfl)
@[go_sem] theorem bOn :Val.wk1 (.ifc m v)= .ifc m v:=(rfl)
@[go_sem] theorem bQn :Val.wk1 (.fm xs ys)= .fm xs ys:=(rfl)
@[go_sem] theorem bOo :Val.wk1 (.agg xs)= .agg (xs.map Val.wk0):=(rfl)
@[go_sem] theorem bOp :Val.wk0 (.int k i)= .int k i:=(rfl)
@[go_sem] theorem bMo :Val.wk0 (.bool b)= .bool b:=(rfl)
@[go_sem] theorem bOq :Val.wk0 (.str x)= .str x:=(rfl)
@[go_sem] theorem bQo :Val.wk0 (.fz xs)= .fz xs:=(rfl)
@[go_sem] theorem bQp :Val.wk0 (.cl xs)= .fz xs:=(rfl)
@[go_sem] theorem bQq :Val.wk0 (.fp xs m)= .fp xs m:=(rfl)
@[go_sem] theorem bQr :Val.wk0 (.fn m xs ys)= .fn m xs ys:=(rfl)
@[go_sem] theorem bMp :Val.wk0 .nili= .nili:=(rfl)
@[go_sem] theorem bMq :Val.wk0 .nilp= .nilp:=(rfl)
@[go_sem] theorem bOr :Val.wk0 (.ifc m v)= .ifc m v:=(rfl)
@[go_sem] theorem bMr :Val.flat (.int k i)=true:=(rfl)
@[go_sem] theorem bKw :Val.flat (.bool b)=true:=(rfl)
@[go_sem] theorem bMs :Val.flat (.str x)=true:=(rfl)
@[go_sem] theorem bKx :Val.cells (.agg xs)=xs:=(rfl)
@[go_sem] theorem bKy :Val.cells (.int k i)=[.int k i]:=(rfl)
@[go_sem] theorem bJg :Val.cells (.bool b)=[.bool b]:=(rfl)
@[go_sem] theorem bKz :Val.cells (.str x)=[.str x]:=(rfl)
@[go_sem] theorem bMt :Val.cells (.fz xs)=[.fz xs]:=(rfl)
@[go_sem] theorem bOs :Val.one (.int k i)=true:=(rfl)
@[go_sem] theorem bMu :Val.one (.bool b)=true:=(rfl)
@[go_sem] theorem bOt :Val.one (.str x)=true:=(rfl)
@[go_sem] theorem bQs :Val.one (.fz xs)=true:=(rfl)
@[go_sem] theorem rH :Val.one (.cl xs)=true:=(rfl)
@[go_sem] theorem bOu :Val.one (.agg xs)=true:=(rfl)
end
section
variable {n :Nat}
@[go_sem] theorem bOv :snapD (n+1) en (.bool b)=some (.bool b,[]):=(rfl)
@[go_sem] theorem bQt {i:Int}:snapD (n+1) en (.int k i)=some (.int k i,[]):=(rfl)
@[go_sem] theorem bQu :snapD (n+1) en (.str s)=some (.str s,[]):=(rfl)
@[go_sem] theorem bOw :snapD (n+1) en .nilp=some (.nilp,[]):=(rfl)
@[go_sem] theorem bOx :snapD (n+1) en .nilm=some (.nilm,[]):=(rfl)
@[go_sem] theorem bOy :snapD (n+1) en .nilf=some (.nilf,[]):=(rfl)
@[go_sem] theorem bOz :snapD (n+1) en .nili=some (.nili,[]):=(rfl)
@[go_sem] theorem bSg :snapD (n+1) en (.fz xs)=some (.fz xs,[]):=(rfl)
@[go_sem] theorem bSh :snapD (n+1) en (.cl xs)=some (.cl xs,[]):=(rfl)
@[go_sem] theorem bSi :snapD (n+1) en (.fp xs off)=some (.fp xs off,[]):=(rfl)
@[go_sem] theorem bSj :snapD (n+1) en (.fm xs ys)=some (.fm xs ys,[]):=(rfl)
@[go_sem] theorem bQv {cs:List Val}:snapD (n+1) en (.agg cs)=(match cY (snapD n en) cs with|some rs=>some (.agg (rs.map (·.1)),rs.flatMap (·.2))|none=>none):=(rfl)
@[go_sem] theorem bQw {cs:List Val}:snapD (n+1) en (.tup cs)=(match cY (snapD n en) cs with|some rs=>some (.tup (rs.map (·.1)),rs.flatMap (·.2))|none=>none):=(rfl)
@[go_sem] theorem bQx {k:Key}:snapD (n+1) en (.ptr k off)=(match en k with|some (.box cs _)=>(match cY (snapD n en) cs with|some rs=>some (.fp (rs.map (·.1)) off,k::rs.flatMap (·.2))|none=>none)|_=>none):=(rfl)
@[go_sem] theorem bSk {k:Key}{len:Nat}:snapD (n+1) en (.bl k off len)=(match en k with|some (.blk _ xs _)=>if k.deep=true then none else if off+len<=xs.length then some (.fz ((xs.drop off).take len),[k])else none|_=>none):=(rfl)
@[go_sem] theorem bO0 {n:Nat}(h: ¬n=3):Key.deep ⟨n,t,g⟩=false:=by simp[Key.deep,h]
@[go_sem] theorem aE0 :Key.deep ⟨0,t,g⟩=false:=(rfl)
end
theorem bK {L:bH}{b:bB}{Q:Ex->St->Prop}(n:Nat)(I:Nat->St->Prop)(k0:Nat)(hle:k0<=n)(h0:I k0 st)
  (hr: ∀k st,k<=n->I k st->Wp L b st fun e st'=>match e with
   | .normal=>k<n/\ I (k+1) st'
   | .exit i=>Q (.exit i) st'
   | .ret=>Q .ret st'
   | .panic v=>Q (.panic v) st'):Wp L (.loop b) st Q:=
 wp_loop (fun k st=>k<=n/\ I k st) (fun k=>n-k) k0 ⟨hle,h0⟩ fun k st ⟨hk,hI⟩=>wp_mono b (hr k st hk hI) fun e st' h=>by
  cases e with
  |normal=>exact⟨k+1,⟨by omega,h.2⟩,by omega⟩
  |exit i=>exact h
  |ret=>exact h
  |panic v=>exact h
theorem aV {n:Int}(h: -9223372036854775808<=n/\ n<=9223372036854775807):IntKind.i64.wrap n=n:=IntWalk.i64_in n h
def Few (n:Nat):Prop:=n<=9223372036854775807
@[go_sem] theorem aR {k n:Nat}(h:k<n)(hn:Few n):IntKind.i64.wrap ((k:Int)+1)=((k+1:Nat):Int):=by
 unfold Few at hn;rw[aV (by omega)];rfl
attribute [go_sem] Int.ofNat_lt Int.ofNat_le Int.ofNat_inj decide_true decide_false bSy
@[go_sem] theorem eq2 {a b c d:Int}:cW .eql (.agg [.num,.num]) (.agg [.int k a,.int k b]) (.agg [.int k c,.int k d])=some (.bool (decide (a=c)&&decide (b=d))):=by
 simp only[cW,oU,bS8,bTd,and_self,if_true,jJ,vH];have e:(a==c)=decide (a=c):=by by_cases h:a=c<;>simp[h]
 have e':(b==d)=decide (b=d):=by by_cases h:b=d<;>simp[h]
 rw[e,e']
 by_cases h:a=c<;>by_cases h':b=d<;>simp[h,h']
@[go_sem] theorem ne2 {a b c d:Int}:cW .neq (.agg [.num,.num]) (.agg [.int k a,.int k b]) (.agg [.int k c,.int k d])=some (.bool (!(decide (a=c)&&decide (b=d)))):=by
 simp only[cW,oU,bS8,bTd,and_self,if_true,jJ,vH];have e:(a==c)=decide (a=c):=by by_cases h:a=c<;>simp[h]
 have e':(b==d)=decide (b=d):=by by_cases h:b=d<;>simp[h]
 rw[e,e']
 by_cases h:a=c<;>by_cases h':b=d<;>simp[h,h']
end
def aT6 (l:List Int):Val:= .fz (l.map (.int .i64))
structure aE where
 kind:Int
 n:Int
 deriving DecidableEq,Inhabited
def aE.enc (v:aE):Val:= .agg [.int .i64 v.kind,.int .i64 v.n]
structure aB where
 node:Int
 env:List aE
 vals:List aE
 deriving DecidableEq,Inhabited
def aB.enc (f:aB):Val:= .agg [.int .i64 f.node,.fz (f.env.map aE.enc),.fz (f.vals.map aE.enc)]
structure aP where
 form:Int
 n:Int
 vals:List aE
 frames:List aB
 deriving DecidableEq,Inhabited
def aP.enc (o:aP):Val:= .agg [.int .i64 o.form,.int .i64 o.n,.fz (o.vals.map aE.enc),.fz (o.frames.map aB.enc)]
structure bO where
 port:Int
 n:Int
 deriving DecidableEq,Inhabited
def bO.enc (o:bO):Val:= .agg [.int .i64 o.port,.int .i64 o.n]
structure aA where
 objs:List aP
 tasks:List Int
 outs:List bO
 ins:List Int
 used:Int
 deriving DecidableEq,Inhabited
def aA.cells (w:aA):List Val:=[.fz (w.objs.map aP.enc),aT6 w.tasks,.fz (w.outs.map bO.enc),aT6 w.ins,.int .i64 w.used]
structure aMc where
 world:aA
 ages:List Int
 marks:List Int
 cycle:Int
 deriving DecidableEq,Inhabited
def aMc.cells (s:aMc):List Val:=s.world.cells++[aT6 s.ages,aT6 s.marks,.int .i64 s.cycle]
structure dC where
 name:ByteArray
 args:Int
 deriving DecidableEq,Inhabited
def dC.enc (c:dC):Val:= .agg [.str c.name,.int .i64 c.args]
inductive Pat where
 |mk (form n:Int) (text:ByteArray) (parts:List Pat)
 deriving Inhabited
mutual
def Pat.enc :Pat->Val
 | .mk f n t ps=> .agg [.int .i64 f,.int .i64 n,.str t,.fz (Pat.encL ps)]
def Pat.encL :List Pat->List Val
 |[]=>[]
 |p::ps=>p.enc::Pat.encL ps
end
theorem Pat.encL_map : ∀ps:List Pat,Pat.encL ps=ps.map Pat.enc
 |[]=>rfl
 |p::ps=>by rw[Pat.encL,Pat.encL_map ps];rfl
def Pat.form :Pat->Int| .mk f _ _ _=>f
def Pat.n :Pat->Int| .mk _ n _ _=>n
def Pat.text :Pat->ByteArray| .mk _ _ t _=>t
def Pat.parts :Pat->List Pat| .mk _ _ _ l=>l
theorem Pat.enc_eq (p:Pat):p.enc= .agg [.int .i64 p.form,.int .i64 p.n,.str p.text,.fz (p.parts.map Pat.enc)]:=by
 cases p;simp only[Pat.enc,Pat.encL_map,Pat.form,Pat.n,Pat.text,Pat.parts]
structure aL where
 op:Int
 n:Int
 kids:List Int
 pats:List Pat
 deriving Inhabited
def aL.enc (o:aL):Val:= .agg [.int .i64 o.op,.int .i64 o.n,aT6 o.kids,.fz (o.pats.map Pat.enc)]
structure aD where
 nodes:List aL
 funs:List Int
 main:Int
 cons:List dC
 deriving Inhabited
def aD.cells (p:aD):List Val:=[.fz (p.nodes.map aL.enc),aT6 p.funs,.int .i64 p.main,.fz (p.cons.map dC.enc)]
attribute [go_sem] aE.enc aB.enc aP.enc bO.enc dC.enc aL.enc Pat.enc_eq aA.cells aD.cells aMc.cells aT6
@[match_pattern] abbrev Val.i (n:Int):Val:= .int .i64 n
abbrev Val.is (l:List Int):Val:= .fz (l.map (.int .i64))
abbrev aA.cs (w:aA):List Val:=[.fz (w.objs.map aP.enc),.is w.tasks,.fz (w.outs.map bO.enc),.is w.ins,.int .i64 w.used]
abbrev aD.cs (p:aD):List Val:=[.fz (p.nodes.map aL.enc),.is p.funs,.int .i64 p.main,.fz (p.cons.map dC.enc)]
def mJ (L:bH):List aN->St->(St->Prop)->Prop
 |[],st,Q=>Q st
 |o::l,st,Q=>pG L st o fun st' r=>r.ws=[]/\ r.bump=false/\ r.mem=none/\ mJ L l st' Q
theorem mK {L:bH}{o:aN}{K K':St->Res->Prop}(h:pG L st o K)(hk: ∀s r,K s r->K' s r):pG L st o K':=by
 have wop: ∀{d g:Nat} {en:En} {get:Opd->Val} {op:LOp} {K K':Res->Prop},WOp L d g en get op K->(∀r,K r->K' r)->WOp L d g en get op K':=by
  intro d g en get op K K' h hk;have oth:(match dG d g en get op with|some r=>K r|none=>False)->(match dG d g en get op with|some r=>K' r|none=>False):=by
   intro h;split<;>rename_i hr<;>simp only[hr]at h;exact hk _ h
  cases op with
  |call f args=>
   simp only[WOp]at h⊢
   split at h
   ·split at h
    ·obtain⟨r,h1,h2⟩:=h;exact⟨r,h1,hk _ h2⟩
    ·exact h.elim
   ·exact h.elim
  |_=>exact oth h
 unfold pG at h⊢;split
 ·rename_i hw;simp only[hw]at h;split
  ·rename_i f args hop;simp only[hop]at h;exact h.mono fun _ _ _=>hk _ _
  ·rename_i op hne;have h':WOp L (o.dst.getD 0) (st.cnt 0 (o.dst.getD 0)) st.en (St.get st.fr) o.op fun r=>(r.bump&&o.dst.isNone)=false/\
     K ⟨iO st.fr o.dst r.v,W.applyAll st.en r.ws,if r.bump then aC st.cnt 0 (o.dst.getD 0) (st.cnt 0 (o.dst.getD 0)+1)else st.cnt⟩ r:=by
    split at h
    ·rename_i f a hx;exact absurd hx (hne f a)
    ·exact h
   exact wop h' fun r ⟨h1,h2⟩=>⟨h1,hk _ _ h2⟩
 ·rename_i hw;simp only[hw]at h;exact hk _ _ h
 ·rename_i hw;simp only[hw]at h
def bCt (rs:List Res):Prop:= ∀r∈rs,r.ws=[]/\ r.bump=false/\ r.mem=none
theorem aPv {L:bH}: ∀(l:List aN) {st:St} {Q:St->Prop},mJ L l st Q->tD L l st fun st' rs=>bCt rs/\ rs.length=l.length/\ Q st'
 |[],st,Q,h=>⟨fun _ hr=>by simp at hr,rfl,h⟩
 |o::l,st,Q,h=>by
  refine mK h fun s r ⟨h1,h2,h3,h4⟩=>?_
  have rec_: ∀(l:List aN) {st:St} {Q R:St->List Res->Prop},tD L l st Q->(∀s rs,Q s rs->R s rs)->tD L l st R:=by
   intro l
   induction l with
   |nil=>intro st Q R h k;exact k _ _ h
   |cons o l ih=>intro st Q R h k;exact mK h fun s r hs=>ih hs fun s rs hq=>k _ _ hq
  refine rec_ l (aPv l h4) fun s rs ⟨k1,k2,k3⟩=>⟨fun x hx=>?_,by simp[k2],k3⟩
  rcases bTp.1 hx with rfl|hx
  ·exact⟨h1,h2,h3⟩
  ·exact k1 x hx
variable {pairs:List (Nat×Nat)}
theorem aCf {L:bH}{R:Ex->St->Prop}(hp:pairs.all (fun p=>decide (p.1<l.length)&&decide (p.2<l.length))=true)
  (h:mJ L l st (R .normal)):Wp L (.draw l pairs) st R:=by
 simp only[Wp];have hr:=aPv l h;split
 ·rename_i hpp;have: ∀(l:List aN) {st:St} {Q:St->List Res->Prop} {R:St->Prop},tD L l st Q->(∀s rs,Q s rs->R s)->jF L l st R:=by
   intro l
   induction l with
   |nil=>intro st Q R h k;exact k _ _ h
   |cons o l ih=>intro st Q R h k;exact mK h fun s r hs=>ih hs fun s rs hq=>k _ _ hq
  exact this l hr fun s rs h=>h.2.2
 ·have rec_: ∀(l:List aN) {st:St} {Q R:St->List Res->Prop},tD L l st Q->(∀s rs,Q s rs->R s rs)->tD L l st R:=by
   intro l
   induction l with
   |nil=>intro st Q R h k;exact k _ _ h
   |cons o l ih=>intro st Q R h k;exact mK h fun s r hs=>ih hs fun s rs hq=>k _ _ hq
  refine rec_ l hr fun s rs ⟨h1,h2,h3⟩=>⟨?_,h3⟩
  unfold dV
  refine bS5.2 fun p hpm=>?_
  have:=bS5.1 hp p hpm;simp only[bSw,bWo]at this;rw[bTy (by omega),bTy (by omega)]
  obtain⟨a1,a2,a3⟩:=h1 rs[p.1] (bS7 _);obtain⟨b1,b2,b3⟩:=h1 rs[p.2] (bS7 _);simp[aFo,a1,a3,b1,b3]
section
variable {L :bH}{Q:St->Prop}
@[congr] theorem bF5 :mJ L l st Q=mJ L l st Q:=(rfl)
@[go_sem] theorem bQy (st:St):mJ L [] st Q=Q st:=(rfl)
def aJi (L:bH)(l:List aN)(dst:Option Nat)(fr:Nat->Val)(en:En)(cnt:Nat->Nat->Nat)(Q:St->Prop):Option Res->Prop
 |some r=>(r.bump&&dst.isNone)=false/\ r.ws=[]/\ r.bump=false/\ r.mem=none/\ mJ L l ⟨iO fr dst r.v,W.applyAll en r.ws,if r.bump then aC cnt 0 (dst.getD 0) (cnt 0 (dst.getD 0)+1)else cnt⟩ Q
 |none=>False
@[congr] theorem bHt {r:Option Res}(h:r=r'):aJi L l dst fr en cnt Q r=aJi L l dst fr en cnt Q r':=by rw[h]
@[go_sem] theorem bJh {rs:List R}:
  aJi L l dst fr en cnt Q (some ⟨v,[],rs,false,none,u⟩)=mJ L l ⟨iO fr dst v,en,cnt⟩ Q:=by simp[aJi,W.applyAll]
@[go_sem] theorem bJi :aJi L l dst fr en cnt Q none=False:=(rfl)
@[go_sem] theorem bSl (h:op.plain=true):mJ L (⟨dst,op,none⟩::l) ⟨fr,en,cnt⟩ Q=aJi L l dst fr en cnt Q (dG (dst.getD 0) (cnt 0 (dst.getD 0)) en (St.get fr) op):=by
 cases op<;>first|(simp[LOp.plain]at h;done)|rfl|(simp only[mJ,pG,wanted,WOp,aJi];rfl)
@[go_sem] theorem bCu :mJ L (⟨dst,op,some (t,b)⟩::l) ⟨fr,en,cnt⟩ Q=
  rD (fr t) b (mJ L (⟨dst,op,none⟩::l) ⟨fr,en,cnt⟩ Q) (mJ L l ⟨iO fr dst (.tup []),en,cnt⟩ Q):=by
 simp only[mJ,pG,wanted,rD]
 split<;>rename_i h
 ·split at h
  ·rename_i b' hb;simp only[bSv]at h;simp only[hb,h,if_true]
  ·cases h
  ·cases h
 ·split at h
  ·rename_i b' hb;simp only[bSv]at h;simp only[hb,h,bS0,if_false,true_and]
  ·rename_i hb;simp only[hb,true_and]
  ·cases h
 ·split at h
  ·cases h
  ·cases h
  ·rename_i h1 h2;split
   ·rename_i b' hb;exact absurd hb (h1 _)
   ·rename_i hb;exact absurd hb h2
   ·rfl
@[go_sem] theorem bO1 {f:Opd}{args:List Opd}:mJ L (⟨dst,.call f args,none⟩::l) ⟨fr,en,cnt⟩ Q=
  aD9 L en (St.get fr f) (args.map (St.get fr)) fun r ks=>aJi L l dst fr en cnt Q (some (iJ 0 (dst.getD 0) (cnt 0 (dst.getD 0)) r ks)):=by
 simp only[mJ,pG,wanted,WOp,aD9,aJh,aT5];cases St.get fr f<;>first|rfl|skip
end
section
variable {L :bH}{Q:St->Prop}
def aGd (m:Nat)(en:En)(a v:Val):Option Res:=
  if v.one=true/\ v.cells.length=m then
   match a with
   | .ptr k off=>match en k with
    |some (.box cs false)=>if off+m<=cs.length then some {v:= .tup [],ws:=[.cells k off v.cells],rs:=[.flag k]}else none
    |_=>none
   | .ep k i off=>match en k with
    |some (.blk _ xs false)=>match xs[i]? with
     |some y=>if off+m<=y.cells.length then
       if k.deep then none else
       match snapD 8 en v with
       |some (v',ks)=>if v'.one=true/\ v'.cells.length=m/\ ks.all (fun k'=>decide (k'≠k))=true then some {v:= .tup [],ws:=ks.map .frz++[.elem k i off v'.wk1.cells],rs:= .val k:: .flag k::ks.map .val}else none
       |none=>none
      else none
     |none=>none
    |_=>none
   |_=>none
  else none
@[go_sem] theorem bK0 {a:Opd}:dG d g en get (.store m a x)=aGd m en (get a) (get x):=(rfl)
@[go_sem] theorem bK1 {k:Key}(h1:v.one=true)(h2:v.cells.length=m):aGd m en (.ptr k off) v=(match en k with
    |some (.box cs false)=>if off+m<=cs.length then some {v:= .tup [],ws:=[.cells k off v.cells],rs:=[.flag k]}else none
    |_=>none):=by simp[aGd,h1,h2]
@[go_sem] theorem bHu {k:Key}:(W.cells k off vs).apply en=(match en k with
  |some (.box cs f)=>en.set k (some (.box (setCells cs off vs) f))
  |_=>en):=(rfl)
def kU (str:Bool)(size:Nat)(en:En)(x:Val)(lo hi mx:Option Val):Option Res:=
  if str then
   match x,mx with
   | .str s,none=>match jM hi s.size s.size with
    |some h=>(jM lo 0 h).map fun l=>{v:= .str (s.extract l h)}
    |none=>none
   |_,_=>none
  else match x with
   | .fz xs=>match mx with
    |none=>match jM hi xs.length xs.length with
     |some h=>match jM lo 0 h with
      |some l=>if l=0 \/dA size xs=true then some {v:= .fz ((xs.take h).drop l)}else none
      |none=>none
     |none=>none
    |some m=>aLb size xs lo hi m
   | .cl xs=>match mx with
    |none=>match jM hi xs.length xs.length with
     |some h=>match jM lo 0 h with
      |some l=>if l=0 \/dA size xs=true then some {v:=if h=xs.length then .cl (xs.drop l)else .fz ((xs.take h).drop l)}else none
      |none=>none
     |none=>none
    |some m=>aLb size xs lo hi m
   | .bl k off len=>match mx with
    |none=>match jM hi len len with
     |some h=>match jM lo 0 h with
      |some l=>match en k with
       |some (.blk sz _ _)=>if l=0 \/sz=size then some {v:= .bl k (off+l) (h-l),rs:=[.val k]}else none
       |_=>none
      |none=>none
     |none=>none
    |some _=>none
   |_=>none
@[go_sem] theorem bK2 {str:Bool}{lo hi mx:Option Opd}:dG d g en get (.slice str size x lo hi mx)=kU str size en (get x) (lo.map get) (hi.map get) (mx.map get):=by
 cases mx<;>cases str<;>(simp only[dG,eval,kU,Option.map])<;>cases get x<;>rfl
@[go_sem] theorem wF {a:Nat}:jM none a t=some a:=(rfl)
theorem uX {i a:Nat}(h:i<=t):jM (some (.int k (i:Int))) a t=some i:=by
 simp only[jM];rw[if_pos ⟨by omega,by omega⟩];simp
@[go_sem] theorem wG {i:Nat}(h:i<=xs.length):kU false size en (.fz xs) none (some (.int k (i:Int))) none=some {v:= .fz (xs.take i)}:=by
 simp[kU,uX h,wF]
theorem aMd {i:Nat}(h:i<=xs.length)(hs:dA size xs=true):kU false size en (.fz xs) (some (.int k (i:Int))) none none=some {v:= .fz (xs.drop i)}:=by
 simp[kU,uX h,wF,hs]
end
theorem aT7 {l:List α}{k:Nat}(h:k<l.length)(p:α->Bool):(l.drop k).any p=(p l[k]||(l.drop (k+1)).any p):=by
 rw[bT2 h,List.any_cons]
theorem gP {l:List α}{k:Nat}(h:k<l.length)(p:α->Bool):(l.drop k).all p=(p l[k]&&(l.drop (k+1)).all p):=by
 rw[bT2 h,bVd]
variable {D:List Nat}
section
variable {L :bH}{Q:St->Prop}
def cX (en:En)(v:Val)(size:Nat)(xs:List Val)(D:List Nat):Prop:=
 (v= .cl []/\ xs=[]) \/ ∃t g f,v= .bl ⟨0,t,g⟩ 0 xs.length/\ en ⟨0,t,g⟩=some (.blk size xs f)/\ t∈D
theorem cX.nil (size:Nat)(D:List Nat):cX en (.cl []) size [] D:= .inl ⟨rfl,rfl⟩
theorem cX.keep (h:cX en v size xs D)(k: ∀t g,t∈D->en' ⟨0,t,g⟩=en ⟨0,t,g⟩):cX en' v size xs D:=by
 rcases h with h|⟨t,g,f,h1,h2,h3⟩
 ·exact .inl h
 ·exact .inr ⟨t,g,f,h1,by rw[k t g h3];exact h2,h3⟩
theorem cX.sub {D':List Nat}(h:cX en v size xs D)(k: ∀t∈D,t∈D'):cX en v size xs D':=by
 rcases h with h|⟨t,g,f,h1,h2,h3⟩
 ·exact .inl h
 ·exact .inr ⟨t,g,f,h1,h2,k t h3⟩
theorem cX.snap (h:cX en v size xs D)(n:Nat):
  ∃r ks,snapD (n+1) en v=some (r,ks)/\ r.wk0= .fz xs/\ r.wk1= .fz xs/\ r.wk= .fz xs/\ (r= .fz xs \/r= .cl xs):=by
 rcases h with⟨rfl,rfl⟩|⟨t,g,f,rfl,h2,_⟩
 ·exact⟨.cl [],[],rfl,rfl,rfl,rfl,.inr rfl⟩
 ·refine⟨.fz xs,[⟨0,t,g⟩],?_,rfl,rfl,rfl,.inl rfl⟩
  simp[snapD,h2,aE0]
theorem cX.len (h:cX en v size xs D):uC v=some xs.length:=by
 rcases h with⟨rfl,rfl⟩|⟨t,g,f,rfl,h2,_⟩<;>rfl
@[go_sem] theorem bMv :jI en (.cl xs)=some (xs,[]):=(rfl)
@[go_sem] theorem bCv :jI en (.fz xs)=some (xs,[]):=(rfl)
theorem jO {y:Opd}{rs:List R}(hx:cX en (St.get fr x) size xs D)(hy:jI en (St.get fr y)=some (ys,rs))(h1:dA size ys=true)
  (hl:xs.length+ys.length<=16777216)
  (k: ∀v en' cnt',cX en' v size (xs++ys) (d::D)->(∀n t g,n≠0 \/(t≠d/\ t∉D)->en' ⟨n,t,g⟩=en ⟨n,t,g⟩)->(∀n t,t≠d->cnt' n t=cnt n t)->jF L l ⟨jG fr d v,en',cnt'⟩ Q):
  jF L (⟨some d,.append size x y,none⟩::l) ⟨fr,en,cnt⟩ Q:=by
 rw[aT4 (by rfl)]
 simp only[bTq];rcases hx with⟨hv,rfl⟩|⟨t,g,f,hv,he,ht⟩
 ·simp only[dG,eval,fZ,hy,h1,if_true,hv]
  by_cases hys:ys.isEmpty=true
  ·have:ys=[]:=by simpa using hys
   subst this;simp only[List.isEmpty_nil,if_true,aPu,gD];exact k _ _ _ (.inl ⟨rfl,rfl⟩) (fun _ _ _ _=>rfl) (fun _ _ _=>rfl)
  ·rw[if_neg hys,if_pos ⟨by simpa using hl,rfl⟩]
   simp only[aIb,lF,gD,zF]
   refine k _ _ _ (.inr ⟨d,cnt 0 d,false,by simp,by simp[En.set],by simp⟩) (fun n t g h=>kG (fun he=>?_)) (fun n t h=>by simp[aC,h])
   injection he with h3 h4 h5
   rcases h with h|⟨h,_⟩
   ·exact h h3
   ·exact h h4
 ·simp only[dG,eval,fZ,aE0,hy,h1,if_true,hv,he];rw[if_pos ⟨.inl (by simp),hl,trivial,fun h=>by cases h⟩]
  simp only[aIb,lF,gD,zF]
  refine k _ _ _ (.inr ⟨d,cnt 0 d,f,by simp,?_,by simp⟩) (fun n t' g' h=>?_) (fun n t h=>by simp[aC,h])
  ·simp[En.set]
  ·have e1:(⟨n,t',g'⟩:Key)≠⟨0,d,cnt 0 d⟩:=by
    intro he;injection he with h3 h4 h5;rcases h with h|⟨h,_⟩
    ·exact h h3
    ·exact h h4
   have e2:(⟨n,t',g'⟩:Key)≠⟨0,t,g⟩:=by
    intro he;injection he with h3 h4 h5;subst h4;rcases h with h|⟨_,h⟩
    ·exact h h3
    ·exact h ht
   rw[kG e1,kG e2]
def aYh (x i:Val):Option Res:=match x,i with
  | .str s,.int _ j=>if 0<=j then(s[j.toNat]?).map fun b=>{v:= .int .u8 b.toNat}else none
  |_,_=>none
@[go_sem] theorem bO2 {i:Opd}:dG d g en get (.ixs x i)=aYh (get x) (get i):=(rfl)
theorem bF6 (h:j<s.data.toList.length):aYh (.str s) (.int k (j:Int))=some {v:= .int .u8 (s.data.toList[j]).toNat}:=by
 have h':j<s.size:=by rw[bVa]at h;exact h
 have e:s[(j:Int).toNat]?=some (s.data.toList[j]):=by
  simp only[bTt];rw[getElem?_pos s j h'];exact congrArg some (by rw[ByteArray.getElem_eq_getElem_data,bVu])
 unfold aYh;simp only[if_pos (bVm j),e,Option.map]
end
inductive eC (a b:Prop):Type
 |mk
section
variable {L :bH}{Q:St->Prop}{R:Ex->St->Prop}
def aIc (v:Val)(a b:Prop)(_:eC a b):Prop:=aMb v a b
def pQ (v:Val)(t:Bool)(a b:Prop)(_:eC a b):Prop:=rD v t a b
@[congr] theorem bF7 {a b:Prop}{k:eC a b}(h:v=v'):aIc v a b k=aIc v' a b k:=by rw[h]
@[congr] theorem bFc {t:Bool}{a b:Prop}{k:eC a b}(h:v=v'):pQ v t a b k=pQ v' t a b k:=by rw[h]
theorem qC {x:Opd}{a b:bB}:Wp L (.cond x a b) ⟨fr,en,cnt⟩ R=aIc (St.get fr x) (Wp L a ⟨fr,en,cnt⟩ R) (Wp L b ⟨fr,en,cnt⟩ R) .mk:=(rfl)
theorem bCw {a b:Prop}{k:eC a b}:aIc (.bool true) a b k=a:=(rfl)
theorem bCx {a b:Prop}{k:eC a b}:aIc (.bool false) a b k=b:=(rfl)
theorem aG {t:Bool}{a b:Prop}{k:eC a b}(h:t=true->a)(h':t=false->b):aIc (.bool t) a b k:=aZ h h'
theorem qG {t:Nat}{b:Bool}{op:LOp}:jF L (⟨dst,op,some (t,b)⟩::l) ⟨fr,en,cnt⟩ Q=
  pQ (fr t) b (jF L (⟨dst,op,none⟩::l) ⟨fr,en,cnt⟩ Q) (jF L l ⟨iO fr dst (.tup []),en,cnt⟩ Q) .mk:=bF1
theorem qS {t:Nat}{b:Bool}{op:LOp}:mJ L (⟨dst,op,some (t,b)⟩::l) ⟨fr,en,cnt⟩ Q=
  pQ (fr t) b (mJ L (⟨dst,op,none⟩::l) ⟨fr,en,cnt⟩ Q) (mJ L l ⟨iO fr dst (.tup []),en,cnt⟩ Q) .mk:=bCu
theorem aZy {a b:Prop}{k:eC a b}:pQ (.bool true) true a b k=a:=(rfl)
theorem aZz {a b:Prop}{k:eC a b}:pQ (.bool false) false a b k=a:=(rfl)
theorem aZ0 {a b:Prop}{k:eC a b}:pQ (.bool true) false a b k=b:=(rfl)
theorem aZ1 {a b:Prop}{k:eC a b}:pQ (.bool false) true a b k=b:=(rfl)
theorem aZ2 {a b:Prop}{k:eC a b}{t:Bool}:pQ (.tup []) t a b k=b:=(rfl)
theorem aI {k:eC yes no}(h:b=b'->yes)(h':b=!b'->no):pQ (.bool b) b' yes no k:=bD h h'
end
theorem aE1 {L:bH}{b:bB}{R:Ex->St->Prop}:Wp L (.seq (.ops l) b) st R=jF L l st fun st'=>Wp L b st' R:=(rfl)
theorem aDp {L:bH}{a b:bB}{Q:Ex->St->Prop}(M:St->Prop)
  (h:Wp L a st fun e st'=>match e with| .normal=>M st'| .exit i=>Q (.exit i) st'| .ret=>Q .ret st'| .panic v=>Q (.panic v) st') (k: ∀fr en cnt,M ⟨fr,en,cnt⟩->Wp L b ⟨fr,en,cnt⟩ Q):Wp L (.seq a b) st Q:=
 bI7 M h fun st' h'=>k _ _ _ h'
section
variable {L :bH}{Q:St->Prop}
def bJj (size:Nat)(z:List Val)(d g:Nat)(x y:Val):Option Res:=match x,y with
  | .int .i64 a,.int .i64 b=>if a=b/\ small a=true then
    some {v:= .bl ⟨0,d,g⟩ 0 a.toNat,ws:=[.ent ⟨0,d,g⟩ (some (.blk size (List.replicate a.toNat (nN size z false)) false))],bump:=true}else none
  |_,_=>none
@[go_sem] theorem bK3 {y:Opd}:dG d g en get (.mklen size z x y)=bJj size z d g (get x) (get y):=(rfl)
theorem bCy {n:Nat}(h:n<=16777216):bJj size z d g (.int .i64 (n:Int)) (.int .i64 (n:Int))=some {v:= .bl ⟨0,d,g⟩ 0 n,ws:=[.ent ⟨0,d,g⟩ (some (.blk size (List.replicate n (nN size z false)) false))],bump:=true}:=by
 have:small (n:Int)=true:=by simp[small];omega
 simp[bJj,this]
@[go_sem] theorem bHv :nN 1 [.bool b] false= .bool b:=(rfl)
@[go_sem] theorem bJk {n:Int}:nN 1 [.int k n] false= .int k n:=(rfl)
@[go_sem] theorem bSm {len:Nat}{k:Key}{kk:IntKind}{j:Int}:mH size en (.bl k off len) (.int kk j)=(match en k with
  |some (.blk sz _ _)=>if 0<=j/\ j<len/\ sz=size then some {v:= .ep k (off+j.toNat) 0,rs:=[.val k]}else none
  |_=>none):=(rfl)
@[go_sem] theorem bO3 {k:Key}{i n:Nat}:sI en (.ep k i off) n=(match en k with
  |some (.blk _ xs _)=>(match xs[i]? with
   |some x=>if off+n<=x.cells.length then some ((x.cells.drop off).take n,[.val k])else none
   |none=>none)
  |_=>none):=(rfl)
@[go_sem] theorem bMw {i:Nat}{k:Key}(h1:v.one=true)(h2:v.cells.length=m):aGd m en (.ep k i off) v=(match en k with
    |some (.blk _ xs false)=>(match xs[i]? with
     |some y=>if off+m<=y.cells.length then
       if k.deep=true then none else
       (match snapD 8 en v with
       |some (v',ks)=>if v'.one=true/\ v'.cells.length=m/\ ks.all (fun k'=>decide (k'≠k))=true then some {v:= .tup [],ws:=ks.map .frz++[.elem k i off v'.wk1.cells],rs:= .val k:: .flag k::ks.map .val}else none
       |none=>none)
      else none
     |none=>none)
    |_=>none):=by simp[aGd,h1,h2]
@[go_sem] theorem bJl {k:Key}{i:Nat}:(W.elem k i off vs).apply en=(match en k with
  |some (.blk sz xs f)=>(match xs[i]? with
   |some x=>en.set k (some (.blk sz (xs.set i (fG x off vs)) f))
   |none=>en)
  |_=>en):=(rfl)
@[go_sem] theorem bMx :fG (.bool b) 0 [v]=v:=(rfl)
@[go_sem] theorem bO4 {n:Int}:fG (.int k n) 0 [v]=v:=(rfl)
attribute [go_sem] List.all_nil ite_self
end
variable {tbl:List (Nat×Nat)}
section
variable {L :bH}{n:Nat}
@[go_sem] theorem bSn {b:List Val}:snapD (n+1) en (.fn f a b)=(match cY (snapD n en) a with
   |some x=>(match cY (snapD n en) b with
    |some y=>some (.fn f (x.map (·.1)) (y.map (·.1)),x.flatMap (·.2)++y.flatMap (·.2))
    |none=>none)
   |none=>none):=(rfl)
@[go_sem] theorem bQz :snapD (n+1) en (.ifc t v)=(match snapD n en v with
   |some r=>some (.ifc t r.1,r.2)
   |none=>none):=(rfl)
@[go_sem] theorem g_m {i:Nat}:St.get fr (.m tbl i)=aBw tbl (fr i):=(rfl)
@[go_sem] theorem bJm :aBw tbl (.ifc t v)=(match tbl.lookup t with
  |some f=> .fn f [v] []
  |none=> .dead):=(rfl)
attribute [go_sem] List.lookup_cons
structure hZ {α:Type} (L:bH) (enc:α->Val) (h:Val) (p:α->Bool) (l:List α):Prop where
 snap: ∀n en,4<=n->snapD n en h=some (h,[])
 wk:h.wk1=h
 one:h.one=true
 cells:h.cells=[h]
 call: ∀x∈l,∀en K,K (.bool (p x)) []->aD9 L en h [enc x] K
theorem aAs (h1:v.one=true)(h2:v.cells=[v]):rG d g 1 v=some {v:= .ptr ⟨0,d,g⟩ 0,ws:=[.ent ⟨0,d,g⟩ (some (.box [v] false))],bump:=true}:=by
 simp[rG,h1,h2]
end
def idxOf {α:Type}(p:α->Bool):List α->Nat->Int
 |[],_=> -1
 |x::l,k=>if p x then(k:Int)else idxOf p l (k+1)
theorem aId {α:Type}(p:α->Bool): ∀(l:List α) (k:Nat),decide (0<=idxOf p l k)=l.any p
 |[],k=>by simp[idxOf]
 |x::l,k=>by
  simp only[idxOf,List.any_cons];split
  ·rename_i h;simp[h]
  ·rename_i h;rw[aId p l (k+1)];simp[h]
variable {key:Key}
section
def bHw (d g:Nat)(x:Val):Option Res:=match x with
  | .str s=>some {v:= .it ⟨0,d,g⟩,ws:=[.ent ⟨0,d,g⟩ (some (.iter s 0))],bump:=true}
  |_=>none
@[go_sem] theorem bO5 :dG d g en get (.rng x)=bHw d g (get x):=(rfl)
@[go_sem] theorem bO6 :bHw d g (.str s)=some {v:= .it ⟨0,d,g⟩,ws:=[.ent ⟨0,d,g⟩ (some (.iter s 0))],bump:=true}:=(rfl)
def bHx (en:En)(x:Val):Option Res:=match x with
  | .it k=>match en k with
   |some (.iter s pos)=>
    if pos<s.size then some {v:= .tup [.bool true,.int .i64 pos,.int .i32 (Utf8.decode s pos).1],ws:=[.ent k (some (.iter s (pos+(Utf8.decode s pos).2)))],rs:=[.val k,.flag k]}
    else some {v:= .tup [.bool false],rs:=[.val k]}
   |_=>none
  |_=>none
@[go_sem] theorem bO7 :dG d g en get (.nxt x)=bHx en (get x):=(rfl)
@[go_sem] theorem bQ0 {k:Key}:bHx en (.it k)=(match en k with
   |some (.iter s pos)=>
    if pos<s.size then some {v:= .tup [.bool true,.int .i64 pos,.int .i32 (Utf8.decode s pos).1],ws:=[.ent k (some (.iter s (pos+(Utf8.decode s pos).2)))],rs:=[.val k,.flag k]}
    else some {v:= .tup [.bool false],rs:=[.val k]}
   |_=>none):=(rfl)
def bHy (t:EqT)(en:En)(m k x:Val):Option Res:=match m with
  | .mp key=>match en key with
   |some (.map ks vs false)=>
    if vK t k&&x.flat1 then
     match findKey t k ks with
     |some (some i)=>some {v:= .tup [],ws:=[.ent key (some (.map (ks.set i k) (vs.set i x) false))],rs:=[.val key,.flag key]}
     |some none=>some {v:= .tup [],ws:=[.ent key (some (.map (ks++[k]) (vs++[x]) false))],rs:=[.val key,.flag key]}
     |none=>none
    else none
   |_=>none
  |_=>none
@[go_sem] theorem bMy {t:EqT}{m k:Opd}:dG d g en get (.mput t m k x)=bHy t en (get m) (get k) (get x):=(rfl)
@[go_sem] theorem bQ1 {t:EqT}{k x:Val}:bHy t en (.mp key) k x=(match en key with
   |some (.map ks vs false)=>
    if(vK t k&&x.flat1)=true then
     (match findKey t k ks with
     |some (some i)=>some {v:= .tup [],ws:=[.ent key (some (.map (ks.set i k) (vs.set i x) false))],rs:=[.val key,.flag key]}
     |some none=>some {v:= .tup [],ws:=[.ent key (some (.map (ks++[k]) (vs++[x]) false))],rs:=[.val key,.flag key]}
     |none=>none)
    else none
   |_=>none):=(rfl)
@[go_sem] theorem bK4 :vK .str (.str s)=true:=(rfl)
@[go_sem] theorem bK5 {n:Int}:vK .num (.int k n)=true:=(rfl)
@[go_sem] theorem bJn :Val.flat1 (.bool b)=true:=(rfl)
@[go_sem] theorem bK6 {n:Int}:Val.flat1 (.int k n)=true:=(rfl)
@[go_sem] theorem bQ2 {k:Key}:aMa .map en (.mp k)=(match en k with
    |some (.map ks _ _)=>some {v:= .int .i64 ks.length,rs:=[.val k]}
    |_=>none):=(rfl)
def aE2 (t:EqT)(z:Val)(ok:Bool)(k:Val)(ks vs:List Val):Option Val:=match findKey t k ks with
    |some (some i)=>some (if ok then .tup [vs.getD i .dead,.bool true]else vs.getD i .dead)
    |some none=>some (if ok then .tup [z,.bool false]else z)
    |none=>none
def aT8 (t:EqT)(z:Val)(ok:Bool)(en:En)(m k:Val):Option Res:=
  if vK t k then
   match m with
   | .mp key=>match en key with
    |some (.map ks vs _)=>(aE2 t z ok k ks vs).map fun v=>{v,rs:=[.val key]}
    |_=>none
   | .fm ks vs=>(aE2 t z ok k ks vs).map fun v=>{v}
   | .nilm=>(aE2 t z ok k [] []).map fun v=>{v}
   |_=>none
  else none
@[go_sem] theorem bMz {t:EqT}{z:Val}{m k:Opd}:dG d g en get (.mget t z ok m k)=aT8 t z ok en (get m) (get k):=(rfl)
@[go_sem] theorem bQ3 {t:EqT}{z:Val}{k:Val}(h:vK t k=true):aT8 t z ok en (.mp key) k=(match en key with
    |some (.map ks vs _)=>(aE2 t z ok k ks vs).map fun v=>{v,rs:=[.val key]}
    |_=>none):=by simp[aT8,h]
@[go_sem] theorem bQ4 {t:EqT}{z:Val}{k:Val}{ks:List Val}(h:vK t k=true):aT8 t z ok en (.fm ks vs) k=(aE2 t z ok k ks vs).map fun v=>{v}:=by simp[aT8,h]
end
theorem zG {L:bH}{g:Opd}{a b:bB}{Q:Ex->St->Prop}{x y:List Val}(h:St.get fr g= .fn f x y)
  (H: ∀fr0 k,fr0=fr->k=kT cnt->WIn L (.fn f x y) [.yld k] (en.set k (some (.loop fr0 ps a b .ready))) (aC cnt 1 0 (cnt 1 0+1)) fun _ en' cnt'=>
   match en' k with
   |some (.loop _ _ _ _ .ready)=>Q .normal ⟨fr,en'.set k none,cnt'⟩
   |some (.loop _ _ _ _ (.done e))=>Q e ⟨fr,en'.set k none,cnt'⟩
   |_=>False):Wp L (.rangeF g ps a b) ⟨fr,en,cnt⟩ Q:=by
 simp only[Wp,h];exact .inl (H fr _ rfl rfl)
theorem aIe {L:bH}{g:Opd}{a b:bB}{Q:Ex->St->Prop}{x y:List Val}(h:St.get fr g= .fn f x y)
  (H: ∀fr0 k,fr0=fr->k=kT cnt->xI L f (x++[.yld k]++y) (en.set k (some (.loop fr0 ps a b .ready))) (aC cnt 1 0 (cnt 1 0+1)) fun v en' cnt'=>Q (.panic v) ⟨fr,en'.set k none,cnt'⟩):Wp L (.rangeF g ps a b) ⟨fr,en,cnt⟩ Q:=by
 simp only[Wp,h];exact .inr (H fr _ rfl rfl)
@[go_sem] theorem bJo :aBx fr [] vs=fr:=(rfl)
@[go_sem] theorem bHz {p:Nat}:aBx fr (p::ps) (v::vs)=aBx (jG fr p v) ps vs:=(rfl)
theorem aW4 :kT cnt=⟨1,0,cnt 1 0⟩:=rfl
theorem cX.shape (h:cX en v size xs D):v.one=true/\ v.cells=[v]:=by
 rcases h with⟨rfl,_⟩|⟨t,g,f,rfl,_⟩<;>exact⟨rfl,rfl⟩
attribute [go_sem] bCw bCx aZy aZz aZ0 aZ1 aZ2 Int.cast_ofNat_Int beq_self_eq_true
attribute [go_sem] Nat.reduceEqDiff Nat.reduceBEq Nat.reduceMul Nat.reduceLeDiff Nat.reduceAdd Nat.reduceSub Nat.reduceLT Int.reduceLT Int.reduceLE Int.reduceToNat Int.reduceAdd Int.reduceNeg Int.reduceEq Int.reduceOfNat Int.reduceNegSucc
theorem kK :type_of% @qC/\ type_of% @qG/\ type_of% @qS/\ type_of% @qW:=⟨@qC,@qG,@qS,@qW⟩
theorem kA :type_of% @bVd.{0}/\ type_of% @bVl.{0}/\ type_of% @bWf.{0}/\ type_of% @Bool.true_or/\ type_of% @bUz:=⟨@bVd.{0},@bVl.{0},@bWf.{0},@Bool.true_or,@bUz⟩
theorem kF :type_of% @bS0/\ type_of% @if_false.{1}/\ type_of% @bTq.{0}:=⟨@bS0,@if_false.{1},@bTq.{0}⟩
def kV (L:bH):List aN->St->(St->List Res->Prop)->Prop
 |[],st,Q=>Q st []
 |o::l,st,Q=>pG L st o fun st' r=>kV L l st' fun s rs=>Q s ({r with v:= .dead}::rs)
theorem uY {L:bH}(l:List aN): ∀{st:St} {Q R:St->List Res->Prop},tD L l st Q->(∀s rs,Q s rs->R s rs)->tD L l st R:=by
 induction l with
 |nil=>intro st Q R h k;exact k _ _ h
 |cons o l ih=>intro st Q R h k;exact mK h fun s r hs=>ih hs fun s rs hq=>k _ _ hq
def nD :List Res->List Res->Prop
 |[],[]=>True
 |a::l,b::m=>(a={b with v:= .dead})/\ nD l m
 |_,_=>False
theorem zH {L:bH}: ∀(l:List aN) {st:St} {Q:St->List Res->Prop},kV L l st Q->tD L l st fun st' rs=> ∃fs,nD fs rs/\ Q st' fs
 |[],st,Q,h=>⟨[],trivial,h⟩
 |o::l,st,Q,h=>by
  refine mK h fun s r h2=>?_
  refine uY l (zH l h2) fun s rs ⟨fs,k1,k2⟩=>⟨{r with v:= .dead}::fs,(show nD ({r with v:= .dead}::fs) (r::rs)from⟨rfl,k1⟩),k2⟩
theorem aCg : ∀{fs rs:List Res},nD fs rs-> ∀(i:Nat),(fs[i]?=none/\ rs[i]?=none) \/ ∃b,fs[i]?=some {b with v:= .dead}/\ rs[i]?=some b
 |[],[],_,i=> .inl ⟨rfl,rfl⟩
 |a::l,b::m,h,0=> .inr ⟨b,by rw[<-h.1];rfl,rfl⟩
 |a::l,b::m,h,i+1=>by simpa using aCg h.2 i
 |[],_::_,h,_=>h.elim
 |_::_,[],h,_=>h.elim
variable {fs rs:List Res}
theorem sL (h:nD fs rs)(pairs:List (Nat×Nat))(hp:dV fs pairs=true):dV rs pairs=true:=by
 unfold dV at hp⊢
 refine bS5.2 fun p hm=>?_
 have:=bS5.1 hp p hm;rcases aCg h p.1 with⟨a1,_⟩|⟨b,a1,a2⟩
 ·rw[a1]at this;cases this
 rcases aCg h p.2 with⟨c1,_⟩|⟨d,c1,c2⟩
 ·rw[a1,c1]at this;cases this
 rw[a1,c1]at this;rw[a2,c2];exact this
theorem aH {L:bH}{R:Ex->St->Prop}
  (h:kV L l st fun st' rs=>dV rs pairs=true/\ R .normal st'):Wp L (.draw l pairs) st R:=by
 simp only[Wp];have hr:=zH l h;split
 ·have: ∀(l:List aN) {st:St} {Q:St->List Res->Prop} {R:St->Prop},tD L l st Q->(∀s rs,Q s rs->R s)->jF L l st R:=by
   intro l
   induction l with
   |nil=>intro st Q R h k;exact k _ _ h
   |cons o l ih=>intro st Q R h k;exact mK h fun s r hs=>ih hs fun s rs hq=>k _ _ hq
  exact this l hr fun s rs ⟨_,_,h⟩=>h.2
 ·exact uY l hr fun s rs ⟨fs,h1,h2,h3⟩=>⟨sL h1 _ h2,h3⟩
section
variable {L :bH}{Q:St->List Res->Prop}
@[congr] theorem bH0 :kV L l st Q=kV L l st Q:=(rfl)
@[go_sem] theorem bQ5 (st:St):kV L [] st Q=Q st []:=(rfl)
def aBn (L:bH)(l:List aN)(dst:Option Nat)(fr:Nat->Val)(en:En)(cnt:Nat->Nat->Nat)(Q:St->List Res->Prop):Option Res->Prop
 |some r=>(r.bump&&dst.isNone)=false/\ kV L l ⟨iO fr dst r.v,W.applyAll en r.ws,if r.bump then aC cnt 0 (dst.getD 0) (cnt 0 (dst.getD 0)+1)else cnt⟩ fun s rs=>Q s ({r with v:= .dead}::rs)
 |none=>False
@[congr] theorem bH1 {r:Option Res}(h:r=r'):aBn L l dst fr en cnt Q r=aBn L l dst fr en cnt Q r':=by rw[h]
@[go_sem] theorem aW5 {rs:List R}:
  aBn L l dst fr en cnt Q (some ⟨v,ws,rs,false,none,u⟩)=kV L l ⟨iO fr dst v,W.applyAll en ws,cnt⟩ fun s fs=>Q s ({v:= .dead,ws:=ws,rs:=rs,unch:=u}::fs):=by simp[aBn]
@[go_sem] theorem aMe {rs:List R}:
  aBn L l (some d) fr en cnt Q (some ⟨v,ws,rs,true,none,u⟩)=kV L l ⟨jG fr d v,W.applyAll en ws,aC cnt 0 d (cnt 0 d+1)⟩ fun s fs=>Q s ({v:= .dead,ws:=ws,rs:=rs,bump:=true,unch:=u}::fs):=by simp[aBn,iO]
@[go_sem] theorem bJp :aBn L l dst fr en cnt Q none=False:=(rfl)
theorem aW6 (h:op.plain=true):kV L (⟨dst,op,none⟩::l) ⟨fr,en,cnt⟩ Q=aBn L l dst fr en cnt Q (dG (dst.getD 0) (cnt 0 (dst.getD 0)) en (St.get fr) op):=by
 cases op<;>first|(simp[LOp.plain]at h;done)|rfl|(simp only[kV,pG,wanted,WOp,aBn];rfl)
@[go_sem] theorem bO8 (h:op.plain=true):kV L (⟨some d,op,none⟩::l) ⟨fr,en,cnt⟩ Q=aBn L l (some d) fr en cnt Q (dG d (cnt 0 d) en (St.get fr) op):=aW6 h
@[go_sem] theorem bO9 (h:op.plain=true):kV L (⟨none,op,none⟩::l) ⟨fr,en,cnt⟩ Q=aBn L l none fr en cnt Q (dG 0 (cnt 0 0) en (St.get fr) op):=aW6 h
@[go_sem] theorem bPa {f:Opd}{args:List Opd}:kV L (⟨dst,.call f args,none⟩::l) ⟨fr,en,cnt⟩ Q=
  aD9 L en (St.get fr f) (args.map (St.get fr)) fun r ks=>aBn L l dst fr en cnt Q (some (iJ 0 (dst.getD 0) (cnt 0 (dst.getD 0)) r ks)):=by
 simp only[kV,pG,wanted,WOp,aD9,aJh,aT5];cases St.get fr f<;>first|rfl|skip
@[go_sem] theorem bM0 {f:Opd}{args:List Opd}:kV L (⟨dst,.icall f args,none⟩::l) ⟨fr,en,cnt⟩ Q=
  WIn L (St.get fr f) (args.map (St.get fr)) en cnt fun v en' cnt'=>kV L l ⟨iO fr dst v,en',cnt'⟩ fun s fs=>Q s ({v:= .dead,mem:=some (en',cnt'),unch:=fun k=>aS6 (en k) (en' k)}::fs):=(rfl)
theorem aZ3 :kV L (⟨dst,op,some (t,b)⟩::l) ⟨fr,en,cnt⟩ Q=
  pQ (fr t) b (kV L (⟨dst,op,none⟩::l) ⟨fr,en,cnt⟩ Q) (kV L l ⟨iO fr dst (.tup []),en,cnt⟩ fun s fs=>Q s ({v:= .dead}::fs)) .mk:=by
 simp only[kV,pG,wanted,pQ,rD]
 split<;>rename_i h
 ·split at h
  ·rename_i b' hb;simp only[bSv]at h;simp only[hb,h,if_true]
  ·cases h
  ·cases h
 ·split at h
  ·rename_i b' hb;simp only[bSv]at h;simp only[hb,h,bS0,if_false,true_and]
  ·rename_i hb;simp only[hb,true_and]
  ·cases h
 ·split at h
  ·cases h
  ·cases h
  ·rename_i h1 h2;split
   ·rename_i b' hb;exact absurd hb (h1 _)
   ·rename_i hb;exact absurd hb h2
   ·rfl
theorem aIf {y:Opd}{rs:List R}(hx:cX en (St.get fr x) size xs D)(hy:jI en (St.get fr y)=some (ys,rs))(h1:dA size ys=true)(hrs:rs=[])
  (hl:xs.length+ys.length<=16777216)
  (k: ∀v en' cnt' r,cX en' v size (xs++ys) (d::D)->(∀n t g,n≠0 \/(t≠d/\ t∉D)->en' ⟨n,t,g⟩=en ⟨n,t,g⟩)->(∀n t,t≠d->cnt' n t=cnt n t)->
   (∀w∈(r:Res).ws,w.key.n=0/\ (w.key.t=d \/w.key.t∈D)/\ ∃e,w= .ent w.key e)->(∀ρ∈r.rs,ρ.key.n=0/\ ρ.key.t∈D)->r.mem=none->kV L l ⟨jG fr d v,en',cnt'⟩ fun s fs=>Q s ({r with v:= .dead}::fs)):
  kV L (⟨some d,.append size x y,none⟩::l) ⟨fr,en,cnt⟩ Q:=by
 subst hrs;rw[aW6 (by rfl)]
 simp only[bTq];rcases hx with⟨hv,rfl⟩|⟨t,g,f,hv,he,ht⟩
 ·simp only[dG,eval,fZ,hy,h1,if_true,hv]
  by_cases hys:ys.isEmpty=true
  ·have:ys=[]:=by simpa using hys
   subst this;simp only[List.isEmpty_nil,if_true,aW5,gD];exact k _ _ _ {v:= .dead} (.inl ⟨rfl,rfl⟩) (fun _ _ _ _=>rfl) (fun _ _ _=>rfl) (by simp) (by simp) rfl
  ·rw[if_neg hys,if_pos ⟨by simpa using hl,rfl⟩]
   simp only[aMe,lF,gD,zF]
   refine k _ _ _ {v:= .dead,ws:=[.ent ⟨0,d,cnt 0 d⟩ _],rs:=[],bump:=true} (.inr ⟨d,cnt 0 d,false,by simp,by simp[En.set],by simp⟩) (fun n t g h=>kG (fun he=>?_)) (fun n t h=>by simp[aC,h]) (by simp[W.key]) (by simp) rfl
   injection he with h3 h4 h5
   rcases h with h|⟨h,_⟩
   ·exact h h3
   ·exact h h4
 ·simp only[dG,eval,fZ,aE0,hy,h1,if_true,hv,he];rw[if_pos ⟨.inl (by simp),hl,trivial,fun h=>by cases h⟩]
  simp only[aMe,lF,gD,zF]
  refine k _ _ _ {v:= .dead,ws:=[.ent ⟨0,t,g⟩ none,.ent ⟨0,d,cnt 0 d⟩ _],rs:=[.val ⟨0,t,g⟩,.flag ⟨0,t,g⟩],bump:=true} (.inr ⟨d,cnt 0 d,f,by simp,?_,by simp⟩) (fun n t' g' h=>?_) (fun n t h=>by simp[aC,h]) (by simp[W.key,ht]) (by simp[R.key,ht]) rfl
  ·simp[En.set]
  ·have e1:(⟨n,t',g'⟩:Key)≠⟨0,d,cnt 0 d⟩:=by
    intro he;injection he with h3 h4 h5;rcases h with h|⟨h,_⟩
    ·exact h h3
    ·exact h h4
   have e2:(⟨n,t',g'⟩:Key)≠⟨0,t,g⟩:=by
    intro he;injection he with h3 h4 h5;subst h4;rcases h with h|⟨_,h⟩
    ·exact h h3
    ·exact h ht
   rw[kG e1,kG e2]
end
theorem bCz {k:Key}{ρ:R}:kQ (.ent k e) ρ=decide (k≠ρ.key):=by cases ρ<;>rfl
theorem bC0 {k:Key}{o:Nat}:kQ (.cells k o vs) (.val k')=decide (k≠k'):=rfl
theorem bC1 {k:Key}{o:Nat}:kQ (.cells k o vs) (.flag k')=true:=rfl
theorem bC2 {k:Key}{o o' n:Nat}:kQ (.cells k o vs) (.cells k' o' n)=(decide (k≠k')||decide (o+vs.length<=o')||decide (o'+n<=o)):=rfl
theorem bC3 {k:Key}{w:W}:nQ (.ent k e) w=decide (k≠w.key):=by cases w<;>rfl
theorem bC4 {k:Key}{o:Nat}:nQ (.cells k o vs) (.ent k' e)=decide (k≠k'):=rfl
theorem bC5 {k:Key}{o o':Nat}{vs':List Val}:nQ (.cells k o vs) (.cells k' o' vs')=(decide (k≠k')||decide (o+vs.length<=o')||decide (o'+vs'.length<=o)):=rfl
theorem bM1 {n:Nat}(h:t≠t'):((⟨n,t,g⟩:Key)≠⟨n',t',g'⟩)=True:=by simp[h]
attribute [go_sem] dV aFo bCz bC0 bC1 bC2 bC3 bC4 bC5 bM1 W.key R.key bU7 aZ3
def pC (P:Program)(F:TypeId->List Val->Prop):List Field->List Val->Prop
 |[],vs=>vs=[]
 |f::fs,vs=> ∃a b,vs=a++b/\ a.length=P.cellsOf f.type/\ F f.type a/\ pC P F fs b
def uJ (P:Program)(t:TypeId)(vs:List Val):Val:=if dF P t then .agg vs else vs.getD 0 .dead
def kH (P:Program):Nat->TypeId->List Val->Prop
 |0,_,_=>False
 |n+1,t,vs=>
  match P.underlying t with
  |some .bool=> ∃b,vs=[.bool b]
  |some (.int k)=> ∃i,vs=[.int k i]/\ (Lit.int k i).wf=true
  |some .string=> ∃s:ByteArray,vs=[.str s]/\ s.size<=maxLen
  |some (.slice e)=> ∃xs:List (List Val),vs=[.fz (xs.map (uJ P e))]/\ xs.length<=maxLen/\ ∀x∈xs,kH P n e x
  |some (.struct fs)=>pC P (kH P n) fs.toList vs
  |_=>True
def aT9 (P:Program)(S:TypeId->Bool):Bool:=(List.range P.types.size).all fun t=>!S t||match P.underlying t with
 |some (.slice e)=>P.cellsOf e !=0&&S e
 |some (.struct fs)=>fs.toList.all fun f=>S f.type
 |some (.array ..)=>false
 |_=>true
def aCh (w:World):Nat->Nat->Prop:=fun b _=>b<w.heap.size
variable {w:World}{P:Program}
section
variable {H :Type}{enc:TypeId×Value->H}{sp:Nat->Bool}
def nE (w:World)(vs:List Val)(cs:List Value):Prop:=
 vs.length=cs.length/\ ∀i,i<cs.length->gC (cs.getD i undef)=true/\ VR (aCh w) Gh.none w (vs.getD i .dead) (cs.getD i undef)
theorem nE.nil :nE w [] []:=⟨rfl,fun i hi=>by simp at hi⟩
theorem nE.one {c:Value}(h:VR (aCh w) Gh.none w v c)(ho:gC c=true):nE w [v] [c]:=by
 refine⟨rfl,fun i hi=>?_⟩
 have:i=0:=by simp at hi;omega
 subst this;exact⟨ho,h⟩
theorem nE.append {b:List Val}{c d:List Value}(h:nE w a c)(k:nE w b d):nE w (a++b) (c++d):=by
 refine⟨by simp[h.1,k.1],fun i hi=>?_⟩
 simp only[bSz,bVr];rw[h.1];split
 ·rename_i hlt;have:=h.2 i hlt;simpa[bSz]using this
 ·have:=k.2 (i-c.length) (by simp at hi;omega);simpa[bSz]using this
theorem not_agg {c:Value}(h:VR (aCh w) Gh.none w v c)(ho:gC c=true):v.cells=[v]/\ v.one=true:=by
 cases h<;>first|exact⟨rfl,rfl⟩|(simp[gC]at ho)
theorem aJj (n:Nat)(F:TypeId->List Val->Prop): ∀(fs:List Field) (cs:List Value),cs.length=(fs.map fun f=>P.cellsOf f.type).sum->
  (∀(j:Nat) f,fs[j]?=some f-> ∃vs,F f.type vs/\ nE w vs ((cs.drop ((fs.take j).map fun f=>P.cellsOf f.type).sum).take (P.cellsOf f.type)))->
  ∃vs,pC P F fs vs/\ nE w vs cs
 |[],cs,hl,_=>by
  have:cs=[]:=by simpa using hl
  subst this;exact⟨[],rfl,nE.nil⟩
 |f::fs,cs,hl,h=>by
  simp only[bTv,List.sum_cons]at hl;obtain⟨a,ha,hra⟩:=h 0 f rfl;simp only[bS2,bTe,List.sum_nil,bU2]at hra;obtain⟨b,hb,hrb⟩:=aJj n F fs (cs.drop (P.cellsOf f.type)) (by simp;omega) (fun j g hj=>by
   obtain⟨vs,h1,h2⟩:=h (j+1) g (by simpa using hj)
   refine⟨vs,h1,?_⟩
   simpa[List.drop_drop]using h2)
  refine⟨a++b,⟨a,b,rfl,?_,ha,hb⟩,?_⟩
  ·rw[hra.1];simp;omega
  ·have:=nE.append hra hrb
   rwa [List.take_append_drop]at this
theorem aUa (b o i:Nat):(⟨b,o,none⟩:Addr).add i=⟨b,o+i,none⟩:=by
 unfold Addr.add;split
 ·rename_i h;subst h;rfl
 ·rfl
theorem uZ {a:Addr}{n:Nat}{cs:List Value}(h:w.cells? 0 a n=some cs):cs.length=n/\ ∀j,j<n->w.cell? (a.add j)=some (cs.getD j undef):=by
 unfold World.cells? at h;rw[if_pos (bS4 _)]at h;have h1:=mapM_some_length h
 refine⟨by simpa using h1,fun j hj=>?_⟩
 have h2:=mapM_some_get h j j (by simp[hj])
 rw[h2];have:j<cs.length:=by rw[h1];simpa using hj
 simp[bSz,this]
theorem aPw (hl:laidOutB P=true)(S:TypeId->Bool)(hz:aT9 P S=true): ∀(fuel:Nat) (t:TypeId) (cs:List Value) (x:DataW H×List MemPlace),t<P.types.size->S t=true->DataW.trod enc P w 0 sp true fuel t cs=some x->
  ∃vs,kH P fuel t vs/\ nE w vs cs:=by
 intro fuel
 induction fuel with
 |zero=>intro t cs x _ _ h;simp[DataW.trod]at h
 |succ n ih=>
  intro t cs x ht hs h;have hz0:=bS5.1 hz t (bTx.2 ht);simp only[hs,bS6,bTz]at hz0;cases hu:P.underlying t with
  |none=>simp[DataW.trod,hu]at h
  |some u=>
   have dead: ∀c:Value,cs=[c]->gC c=true-> ∃vs:List Val,True/\ nE w vs cs:=by
    rintro c rfl ho;exact⟨[.dead],trivial,nE.one (.dead c ho) ho⟩
   have gen:(∃c,cs=[c]/\ gC c=true)->(match u with| .bool| .int _| .string| .slice _| .struct _| .array .. =>False|_=>True)-> ∃vs,kH P (n+1) t vs/\ nE w vs cs:=by
    rintro⟨c,rfl,ho⟩ hk
    refine⟨[.dead],?_,nE.one (.dead c ho) ho⟩
    simp only[kH,hu];cases u<;>first|trivial|exact hk.elim
   cases u with
   |bool=>
    simp only[DataW.trod,hu]at h
    split at h<;>first|(cases h;done)|skip
    all_goals first|(rename_i h1;cases h1;done)|skip
    rename_i b h1;exact⟨[.bool b],by simp only[kH,hu];exact⟨b,rfl⟩,nE.one (.bool b) rfl⟩
   |int k=>
    simp only[DataW.trod,hu]at h
    split at h<;>first|(cases h;done)|skip
    all_goals first|(rename_i h1;cases h1;done)|skip
    rename_i k0 k' i h1;cases h1
    split at h
    ·rename_i hk;obtain⟨rfl,hw⟩:=hk;exact⟨[.int _ i],by simp only[kH,hu];exact⟨i,rfl,hw⟩,nE.one (.int _ i) rfl⟩
    ·cases h
   |string=>
    simp only[DataW.trod,hu]at h
    split at h<;>first|(cases h;done)|skip
    all_goals first|(rename_i h1;cases h1;done)|skip
    rename_i s h1
    split at h
    ·rename_i hs;exact⟨[.str s],by simp only[kH,hu];exact⟨s,rfl,hs⟩,nE.one (.str s) rfl⟩
    ·cases h
   |slice e=>
    simp only[hu,bSw]at hz0;have he:P.cellsOf e≠0:=by simpa using hz0.1
    have hSe:S e=true:=hz0.2;have hke:e<P.types.size:=kid_slice hl ht hu;rcases DataW.trod_slice hu h with⟨rfl,rfl⟩|⟨a,len,cap,elems,rest,m,hm,rfl,rfl,_,hlc,hcm,hel,hall⟩
    ·exact⟨[.fz []],by simp only[kH,hu];exact⟨[],rfl,bS4 _,by simp⟩,nE.one (.fz0 _ _) rfl⟩
    ·cases hm
     replace hall:=hall.1
     have each: ∀i,i<len-> ∃csi vsi,w.cells? 0 (a.add (i*P.cellsOf e)) (P.cellsOf e)=some csi/\ kH P n e vsi/\ nE w vsi csi:=by
      intro i hi;have h1:=hall i hi;have hlt:i<elems.length:=by omega
      rw[bTy hlt]at h1;simp only[bTb]at h1;obtain⟨csi,h2,h3⟩:=h1;obtain⟨vsi,h4,h5⟩:=ih e csi _ hke hSe h3;exact⟨csi,vsi,h2,h4,h5⟩
     let C (i:Nat):List Value:=if hi:i<len then(each i hi).choose else []
     let V (i:Nat):List Val:=if hi:i<len then(each i hi).choose_spec.choose else []
     have hCV: ∀i,i<len->w.cells? 0 (a.add (i*P.cellsOf e)) (P.cellsOf e)=some (C i)/\ kH P n e (V i)/\ nE w (V i) (C i):=by
      intro i hi;have:=(each i hi).choose_spec.choose_spec;simp only[C,V,dif_pos hi];exact this
     have hpk: ∀i,i<len->(uJ P e (V i)).cells=V i:=by
      intro i hi;obtain⟨h1,h2,h3⟩:=hCV i hi;unfold uJ;split
      ·rfl
      ·rename_i hagg;have hlen:(V i).length=1:=by
        rw[h3.1,(uZ h1).1];have hr:=rowFine_of hl hke;unfold dF at hagg;have hvar:isVar P e=true:=by
         have:=rowFine_of hl ht;simp only[rowFine,hu]at this;have hv:isVar P t=true:=by simp[isVar,ht,hu,kindOk]
         simp only[hv,bS6,bTz,bSw]at this;exact this.1
        simp only[rowFine,hvar,bS6,bTz]at hr
        split at hr<;>first|(rename_i h';rw[h']at hagg;simp at hagg;done)|(simp only[bSw,beq_iff_eq]at hr;exact hr.2)|(simpa using hr)
       obtain⟨v,hv⟩:=List.length_eq_one_iff.1 hlen;have h4:=h3.2 0 (by rw[<-h3.1,hlen];omega)
       rw[hv]at h4⊢;simp only[bVx]at h4⊢;exact(not_agg h4.2 h4.1).1
     refine⟨[.fz ((List.range len).map fun i=>uJ P e (V i))],?_,?_⟩
     ·simp only[kH,hu]
      refine⟨(List.range len).map V,by simp[Function.comp_def],by simp;omega,fun x hx=>?_⟩
      obtain⟨i,hi,rfl⟩:=bTu.1 hx;exact(hCV i (by simpa using hi)).2.1
     ·refine nE.one ?_ rfl
      by_cases h0:len=0
      ·subst h0;exact .fz0 _ _
      ·have hsp:a.spot=none:=by
        have:=(uZ (hCV 0 (by omega)).1).2 0 (by omega)
        unfold World.cell? at this
        split at this
        ·rename_i hh
         split at this
         ·cases this
         ·rename_i hs;simpa[Addr.add]using hs
        ·cases this
       obtain⟨blk,off,spt⟩:=a
       simp only at hsp
       subst hsp;have hg: ∀i,i<len->((List.range len).map fun i=>uJ P e (V i)).getD i .dead=uJ P e (V i):=by
        intro i hi;simp[bSz,hi]
       have hcell: ∀i j,i<len->j<P.cellsOf e->w.cell? ⟨blk,off+i*P.cellsOf e+j,none⟩=some ((C i).getD j undef):=by
        intro i j hi hj;have:=(uZ (hCV i hi).1).2 j hj;rw[aUa,aUa]at this;exact this
       have:=VR.fz (T:=aCh w) (G:=Gh.none) (w:=w) ((List.range len).map fun i=>uJ P e (V i)) blk off (P.cellsOf e) cap (fun i j=>(C i).getD j undef)
        (by simpa using hlc) (fun i hi=>by
         have hi':i<len:=by simpa using hi
         rw[hg i hi',hpk i hi',(hCV i hi').2.2.1,(uZ (hCV i hi').1).1])
        (fun i j hi hj=>hcell i j (by simpa using hi) hj)
        (fun i j hi hj=>by
         have:=hcell i j (by simpa using hi) hj
         unfold World.cell? at this
         split at this
         ·rename_i hh;exact(bUt.1 hh).1
         ·cases this)
        (fun i j hi hj=>by
         have hi':i<len:=by simpa using hi
         exact((hCV i hi').2.2.2 j (by rw[(uZ (hCV i hi').1).1];exact hj)).1)
        (fun i j hi hj=>by
         have hi':i<len:=by simpa using hi
         rw[hg i hi',hpk i hi'];exact((hCV i hi').2.2.2 j (by rw[(uZ (hCV i hi').1).1];exact hj)).2)
       simpa using this
   |struct fs=>
    obtain⟨xs,m,hm,_,hlen,hxl,hall⟩:=DataW.trod_struct hu h;cases hm;obtain⟨k1,k2,k3⟩:=kid_struct hl ht hu;obtain⟨vs,h1,h2⟩:=aJj (P:=P) (w:=w) n (kH P n) fs.toList cs (by rw[hlen,k2]) (fun j f hj=>by
     have h3:=hall j f (by simpa using hj)
     have hj':j<xs.length:=by rw[hxl];exact(by simpa using(bWj.1 hj).1)
     rw[bTy hj']at h3;rw[k3 j f hj]at h3;exact ih _ _ _ (k1 f (List.mem_of_getElem? hj)) (by simp only[hu]at hz0;exact bS5.1 hz0 f (List.mem_of_getElem? hj)) h3)
    exact⟨vs,by simp only[kH,hu];exact h1,h2⟩
   |array k e=>
    simp[hu]at hz0
   |_=>
    refine gen ?_ trivial
    simp only[DataW.trod,hu]at h
    first
    |(cases h;done)
    |(split at h<;>first|(cases h;done)|exact⟨_,rfl,rfl⟩|(rename_i h1;cases h1;done)|(rename_i h1 _;cases h1;done))
end
section
variable {n:Nat}{t:TypeId}
theorem jX (hu:P.underlying t=some (.int k))(h:kH P (n+1) t vs): ∃i,vs=[.int k i]:=by
 simp only[kH,hu]at h;obtain⟨i,h,_⟩:=h;exact⟨i,h⟩
theorem aUb (hu:P.underlying t=some .string)(h:kH P (n+1) t vs): ∃s:ByteArray,vs=[.str s]/\ Few s.size:=by
 simp only[kH,hu]at h;obtain⟨s,h,k⟩:=h;exact⟨s,h,by unfold Few;unfold maxLen at k;omega⟩
theorem aYi {α:Type}(enc:α->Val)(Q:α->Prop)(f:List Val->Val): ∀(xs:List (List Val)),(∀x∈xs,∃a,f x=enc a/\ Q a)-> ∃l:List α,xs.map f=l.map enc/\ l.length=xs.length/\ ∀a∈l,Q a
 |[],_=>⟨[],rfl,rfl,by simp⟩
 |x::xs,h=>by
  obtain⟨a,ha,hq⟩:=h x (by simp)
  obtain⟨l,h1,h2,h3⟩:=aYi enc Q f xs fun y hy=>h y (by simp[hy])
  exact⟨a::l,by simp[ha,h1],by simp[h2],fun b hb=>by rcases bTp.1 hb with rfl|hb;exact hq;exact h3 b hb⟩
theorem mL (enc:α->Val)(Q:α->Prop){e:TypeId}(hu:P.underlying t=some (.slice e))(hel: ∀x,kH P n e x-> ∃a,uJ P e x=enc a/\ Q a)(h:kH P (n+1) t vs):
  ∃l:List α,vs=[.fz (l.map enc)]/\ Few l.length/\ ∀a∈l,Q a:=by
 simp only[kH,hu]at h;obtain⟨xs,h,hl,hx⟩:=h;obtain⟨l,h1,h2,h3⟩:=aYi enc Q (uJ P e) xs fun x hm=>hel x (hx x hm)
 exact⟨l,by rw[h,h1],by rw[h2];unfold Few;unfold maxLen at hl;omega,h3⟩
theorem jT {fs:Array Field}(hu:P.underlying t=some (.struct fs))(h:kH P (n+1) t vs):pC P (kH P n) fs.toList vs:=by
 simp only[kH,hu]at h;exact h
theorem aJk {F F':TypeId->List Val->Prop}(h: ∀t vs,F t vs->F' t vs): ∀(fs:List Field) (vs:List Val),pC P F fs vs->pC P F' fs vs
 |[],vs,k=>k
 |f::fs,vs,⟨a,b,h1,h2,h3,h4⟩=>⟨a,b,h1,h2,h _ _ h3,aJk h fs b h4⟩
theorem aIg : ∀(n:Nat) (t:TypeId) (vs:List Val),kH P n t vs->kH P (n+1) t vs
 |0,t,vs,h=>by simp[kH]at h
 |n+1,t,vs,h=>by
  rw[kH]at h⊢;split
  ·rename_i hu;rw[hu]at h;exact h
  ·rename_i hu;rw[hu]at h;exact h
  ·rename_i hu;rw[hu]at h;exact h
  ·rename_i hu;rw[hu]at h;obtain⟨xs,h1,h2,h3⟩:=h;exact⟨xs,h1,h2,fun x hx=>aIg n _ _ (h3 x hx)⟩
  ·rename_i hu;rw[hu]at h;exact aJk (aIg n) _ _ h
  ·trivial
theorem aPx (k:Nat)(h:kH P n t vs):kH P (n+k) t vs:=by
 induction k with
 |zero=>exact h
 |succ k ih=>exact aIg _ _ _ ih
theorem aRp {x:Array Value}(h:nE w vs x.toList):VR (aCh w) Gh.none w (.agg vs) (.agg x):=by
 have e: ∀i,x.getD i undef=x.toList.getD i undef:=by
  intro i;simp[bTc,bSz]
 have hl:vs.length=x.size:=by simpa using h.1
 refine .agg vs x hl.symm (fun i hi=>?_) fun i hi=>?_
 ·rw[e];exact(h.2 i (by rw[bVa];omega)).1
 ·rw[e];exact(h.2 i (by rw[bVa];omega)).2
end
theorem bS {L:bH}{R:Ex->St->Prop}(h:jF L l st (R .normal)):Wp L (.opsP l) st R:= .inl h
theorem cR {L:bH}{R:Ex->St->Prop}(k:Nat){o:aN}(hk:l[k]?=some o)(h:jF L (l.take k) st fun st1=>kS L o st1 fun v st2=>R (.panic v) st2):Wp L (.opsP l) st R:= .inr ⟨k,o,hk,h⟩
theorem jY {L:bH}{R:Ex->St->Prop}
  (h:kV L l st fun st' rs=>dV rs pairs=true/\ R .normal st'):Wp L (.drawP l an pairs) st R:=
 .inl (uY l (zH l h) fun s rs ⟨fs,h1,h2,h3⟩=>⟨sL h1 _ h2,h3⟩)
theorem aYj {L:bH}: ∀(l:List aN) {st:St} {Q:St->List Res->Prop} {R:St->Prop},tD L l st Q->(∀s rs,Q s rs->R s)->jF L l st R
 |[],st,Q,R,h,k=>k _ _ h
 |o::l,st,Q,R,h,k=>mK h fun s r hs=>aYj l hs fun s rs hq=>k _ _ hq
def mvC (o:aN):Bool:=o.guard.isNone&&(match o.op with| .mv (.c _)=>true|_=>false)
def aGe (an:List (List Nat))(j:Nat)(l:List aN):Bool:=
 (List.range l.length).all fun i=>if i<j then !behind an j i&&!aBj an j l i else behind an j i||((aBj an j l i||mvC (l.getD i default))&&(l.getD i default).dst.all fun d=>!(l.getD j default).uses.contains d)
def aE3 (an:List (List Nat))(j:Nat)(l:List aN):List aN:=(List.range (l.length-j)).map fun i=>(dE an j l).getD (j+i) default
theorem bC6 (h:aGe an j l=true)(hj:j<=l.length):dE an j l=l.take j++aE3 an j l:=by
 refine List.ext_getElem (by simp[dE,aE3];omega) fun i h1 h2=>?_
 have hi:i<l.length:=by simpa[dE]using h1
 have hb:=bS5.1 h i (bTx.2 hi)
 by_cases hji:i<j
 ·rw[List.getElem_append_left (by simp;omega)]
  simp only[hji,if_true,bSw,bUb]at hb;simp[dE,hb.1,hb.2,bSz,hi]
 ·rw[List.getElem_append_right (by simp;omega)]
  have e1:(l.take j).length=j:=by simp;omega
  simp only[e1,aE3,List.getElem_map,List.getElem_range,Nat.add_sub_cancel' (by omega:j<=i)]
  simp[bSz,h1]
theorem aZ4 (h:aGe an j l=true)(hj:j<=l.length):
  ∀o∈aE3 an j l,o=aBz \/ ∃x∈l,∃v,o={dst:=x.dst,op:= .mv (.c v),guard:=none}/\ ∀d,x.dst=some d->d∉(l.getD j default).uses:=by
 intro o ho;simp only[aE3,bTu,bTx]at ho;obtain⟨i,hi,rfl⟩:=ho;have hb:=bS5.1 h (j+i) (bTx.2 (by omega))
 have hnj: ¬j+i<j:=by omega
 simp only[hnj,if_false]at hb;have e:(dE an j l).getD (j+i) default=if behind an j (j+i)=true then aBz else if aBj an j l (j+i)=true then aI2 (l.getD (j+i) default)else l.getD (j+i) default:=by
  simp[dE,bSz,show j+i<l.length by omega]
 rw[e];have hmem:l.getD (j+i) default∈l:=by
  rw[bSz,bTy (by omega)]
  exact bS7 _
 by_cases hbe:behind an j (j+i)=true
 ·rw[if_pos hbe];exact .inl rfl
 ·rw[if_neg hbe];simp only[bT9]at hbe;rw[hbe,bTz,bSw,bT7]at hb;have huse: ∀d,(l.getD (j+i) default).dst=some d->d∉(l.getD j default).uses:=fun d hd=>by
   have:=hb.2;rw[hd]at this
   simpa using this
  by_cases hlo:aBj an j l (j+i)=true
  ·rw[if_pos hlo];exact .inr ⟨_,hmem,.dead,rfl,huse⟩
  ·rw[if_neg hlo];have hm:=hb.1.resolve_left hlo;simp only[mvC,bSw,bV3]at hm;generalize l.getD (j+i) default=o at hm huse hmem⊢;obtain⟨od,oo,og⟩:=o;obtain⟨hg,ho⟩:=hm
   simp only at hg ho
   subst hg
   split at ho
   ·rename_i v;exact .inr ⟨_,hmem,v,rfl,huse⟩
   ·cases ho
def tE :Res:={v:= .dead}
theorem aMf {L:bH}: ∀(l m:List aN) {st:St} {Q:St->List Res->Prop},(tD L l st fun s rs=>tD L m s fun s' rs'=>Q s' (rs++rs'))->tD L (l++m) st Q
 |[],m,st,Q,h=>h
 |o::l,m,st,Q,h=>mK h fun s r hs=>aMf l m hs
theorem aUc {L:bH}{U:Nat->Prop}{D:Nat->Prop}: ∀(m:List aN),(∀o∈m,o=aBz \/ ∃d v,o={dst:=d,op:= .mv (.c v),guard:=none}/\ ∀t,d=some t-> ¬U t/\ D t)-> ∀{st:St} {Q:St->List Res->Prop},
  (∀s rs,s.en=st.en->s.cnt=st.cnt->(∀t,U t->s.fr t=st.fr t)->(∀t,¬D t->s.fr t=st.fr t)->nD (List.replicate m.length tE) rs->Q s rs)->tD L m st Q
 |[],_,st,Q,h=>h st [] rfl rfl (fun _ _=>rfl) (fun _ _=>rfl) trivial
 |o::m,hm,st,Q,h=>by
  have ih: ∀(st1:St) (r:Res),st1.en=st.en->st1.cnt=st.cnt->(∀t,U t->st1.fr t=st.fr t)->(∀t,¬D t->st1.fr t=st.fr t)->tE={r with v:= .dead}->tD L m st1 fun s rs=>Q s (r::rs):=fun st1 r a1 a2 a3 a4 a5=>
   aUc m (fun o ho=>hm o (bU4 _ ho)) fun s rs b1 b2 b3 b4 b5=>h s (r::rs) (b1.trans a1) (b2.trans a2) (fun t ht=>(b3 t ht).trans (a3 t ht)) (fun t ht=>(b4 t ht).trans (a4 t ht)) ⟨a5,b5⟩
  rcases hm o (by simp)with rfl|⟨d,v,rfl,hd⟩
  ·exact⟨rfl,ih st _ rfl rfl (fun _ _=>rfl) (fun _ _=>rfl) rfl⟩
  ·refine⟨rfl,ih _ _ rfl rfl (fun t ht=>?_) (fun t ht=>?_) rfl⟩
   ·exact qH fun x hx e=>(hd x hx).1 (e▸ht)
   ·exact qH fun x hx e=>ht (e▸(hd x hx).2)
theorem aUd : ∀{fs rs fs' rs':List Res},nD fs rs->nD fs' rs'->nD (fs++fs') (rs++rs')
 |[],[],_,_,_,h=>h
 |a::l,b::m,_,_,h,k=>⟨h.1,aUd h.2 k⟩
 |[],_::_,_,_,h,_=>h.elim
 |_::_,[],_,_,h,_=>h.elim
theorem aW7 {L:bH}{o:aN}{s:St}{K:Val->St->Prop}(h:kS L o st K)(he:s.en=st.en)(hc:s.cnt=st.cnt)(hf: ∀t∈o.uses,s.fr t=st.fr t):
  kS L o s fun v s2=>K v ⟨st.fr,s2.en,s2.cnt⟩/\ s2.fr=s.fr:=by
 have hw:wanted s.fr o.guard=wanted st.fr o.guard:=by
  cases hg:o.guard with
  |none=>rfl
  |some p=>
   obtain⟨t,b⟩:=p;simp only[wanted];rw[hf t (by simp[aN.uses,hg])]
 have hgt: ∀x∈o.op.opds,St.get s.fr x=St.get st.fr x:=by
  intro x hx;cases x with
  |t i=>exact hf i (by simp only[aN.uses,bTn,bUa];exact .inl ⟨_,hx,by simp[Opd.tmp]⟩)
  |c v=>rfl
  |f i=>rfl
  |m tbl i=>simp only[St.get];rw[hf i (by simp only[aN.uses,bTn,bUa];exact .inl ⟨_,hx,by simp[Opd.tmp]⟩)]
 obtain⟨fr,en,cnt⟩:=st;obtain⟨fr2,en2,cnt2⟩:=s
 simp only at he hc
 subst he hc;unfold kS at h⊢;rw[hw]
 split at h
 case h_2=>cases h
 split at h
 ·rename_i x hop;simp only[hop]at hgt⊢;rw[hgt x (by simp[LOp.opds])]
  split at h
  case h_2=>cases h
  rename_i t u hu;rw[hu];exact⟨h.1,h.2,by first|rfl|trivial⟩
 ·rename_i f args hop;simp only[hop]at hgt⊢;rw[hgt f (by simp[LOp.opds]),show args.map (St.get fr2)=args.map (St.get fr)from bU6 fun p hp=>hgt p (by simp[LOp.opds,hp])]
  split at h
  case h_2=>cases h
  rename_i f' a b hf1 hf2
  split at h
  case h_2=>cases h
  rename_i rs hrs;obtain⟨v,h1,h2⟩:=h;rw[hf1,hf2];simp only[hrs];exact⟨v,h1,h2,by first|rfl|trivial⟩
 ·rename_i f args hop;simp only[hop]at hgt⊢;rw[hgt f (by simp[LOp.opds]),show args.map (St.get fr2)=args.map (St.get fr)from bU6 fun p hp=>hgt p (by simp[LOp.opds,hp])]
  split at h
  case h_2=>cases h
  rename_i f' a b hf1;rw[hf1];exact h.mono fun v en' cnt' hk=>⟨hk,by first|rfl|trivial⟩
 ·cases h
theorem aE4 (h:nD fs rs)(hp:jW an j l fs=true):jW an j l rs=true:=by
 unfold jW at hp⊢
 refine bS5.2 fun i hi=>?_
 have:=bS5.1 hp i hi;simp only[bT7]at this⊢
 refine this.imp id fun h2=>?_
 rcases aCg h i with⟨a1,_⟩|⟨b,a1,a2⟩
 ·rw[a1]at h2;cases h2
 ·rw[a1]at h2;rw[a2];exact h2
theorem aYk {L:bH}{C:List Res->Prop}{R:Val->St->Prop}(j:Nat){o:aN}(hj:l[j]?=some o)(ht:aGe an j l=true)(hC: ∀fs rs,nD fs rs->C fs->C rs)
  (h:kV L (l.take j) st fun st1 fs=>C (fs++List.replicate (l.length-j) tE)/\ kS L o st1 fun v st2=>R v ⟨fun t=>if nB l t then .tup []else st2.fr t,st2.en,st2.cnt⟩):
  (jF L (l.take j) st fun s=>kS L o s fun _ _=>True)/\ tD L (dE an j l) st fun st1 rs=>C rs/\ kS L o st1 fun v st2=>R v ⟨fun t=>if nB l t then .tup []else st2.fr t,st2.en,st2.cnt⟩:=by
 have hjl:j<l.length:=(bWj.1 hj).1;have hr:=zH _ h
 refine⟨aYj _ hr fun s rs ⟨_,_,_,h3⟩=>wD h3 fun _ _ _=>trivial,?_⟩
 rw[bC6 ht (by omega)]
 have hoj:l.getD j default=o:=by simp[bSz,hj]
 have htl:(aE3 an j l).length=l.length-j:=by simp[aE3]
 refine aMf _ _ (uY _ hr fun s rs ⟨fs,h1,h2,h3⟩=>aUc (U:=fun t=>t∈o.uses) (D:=fun t=>nB l t=true) _ (fun x hx=>?_) fun s' rs' a1 a2 a3 a4 a5=>⟨?_,?_⟩)
 ·refine(aZ4 ht (by omega) x hx).imp id ?_
  rintro⟨y,hy,v,rfl,hd⟩
  refine⟨y.dst,v,rfl,fun t e=>⟨by rw[<-hoj];exact hd t e,?_⟩⟩
  simp only[nB,bVv,beq_iff_eq];exact⟨y,hy,e⟩
 ·rw[htl]at a5;exact hC _ _ (aUd h1 a5) h2
 ·refine wD (aW7 h3 a1 a2 a3) ?_
  rintro v s2 ⟨hk,e⟩
  have:(fun t=>if nB l t then Val.tup []else s.fr t)=fun t=>if nB l t then Val.tup []else s2.fr t:=by
   funext t
   by_cases hd:nB l t=true
   ·rw[if_pos hd,if_pos hd]
   ·rw[if_neg hd,if_neg hd,e,a4 t hd]
  rw[this]at hk;exact hk
theorem mN {L:bH}{R:Ex->St->Prop}(j:Nat){o:aN}(hj:l[j]?=some o)(ht:aGe an j l=true)
  (h:kV L (l.take j) st fun st1 fs=>(dV (fs++List.replicate (l.length-j) tE) pairs&&jW an j l (fs++List.replicate (l.length-j) tE))=true/\
   kS L o st1 fun v st2=>R (.panic v) ⟨fun t=>if nB l t then .tup []else st2.fr t,st2.en,st2.cnt⟩):Wp L (.drawP l an pairs) st R:=by
 obtain⟨h1,h2⟩:=aYk (R:=fun v st=>R (.panic v) st) (C:=fun fs=>(dV fs pairs&&jW an j l fs)=true) j hj ht (fun fs rs hs hc=>by
  rw[bSw]at hc⊢;exact⟨sL hs _ hc.1,aE4 hs hc.2⟩) h
 exact .inr ⟨j,o,hj,h1,h2⟩
theorem bC7 {L:bH}{R:Ex->St->Prop}(j:Nat)(m:List aN){o:aN}(hj:l[j]?=some o)(hm:dE an j l=m)
  (h1:jF L (l.take j) st fun s=>kS L o s fun _ _=>True)
  (h2:kV L m st fun st1 fs=>(dV fs pairs&&jW an j l fs)=true/\ kS L o st1 fun v st2=>R (.panic v) ⟨fun t=>if nB l t then .tup []else st2.fr t,st2.en,st2.cnt⟩):Wp L (.drawP l an pairs) st R:=by
 refine .inr ⟨j,o,hj,h1,?_⟩
 rw[hm];exact uY m (zH m h2) fun s rs ⟨fs,hs,hc,h3⟩=>⟨by
  rw[bSw]at hc⊢;exact⟨sL hs _ hc.1,aE4 hs hc.2⟩,h3⟩
variable {A:Nat}
theorem aPy {k:Key}(h:nD fs rs)(hp:pS an A k fs=true):pS an A k rs=true:=by
 have hlen:fs.length=rs.length:=by
  clear hp
  induction fs generalizing rs with
  |nil=>cases rs with
   |nil=>rfl
   |cons=>exact h.elim
  |cons f fs ih=>cases rs with
   |nil=>exact h.elim
   |cons r rs=>simp only[bS8];rw[ih h.2]
 unfold pS at hp⊢
 refine bS5.2 fun i hi=>?_
 have:=bS5.1 hp i (by rwa [hlen])
 simp only[bT7]at this⊢
 refine this.imp id fun h2=>?_
 rcases aCg h i with⟨a1,_⟩|⟨b,a1,a2⟩
 ·rw[a1]at h2;cases h2
 ·rw[a1]at h2;rw[a2];exact h2
theorem pH {L:bH}{R:Ex->St->Prop}(hA:l[A]?=some {dst:=some d,op:= .alloc z,guard:=none})
  (h:kV L (l.set A {dst:=some d,op:= .mv (.c (.ptr ⟨0,d,cnt 0 d⟩ 0)),guard:=none}) ⟨fr,en.set ⟨0,d,cnt 0 d⟩ (some (.box z false)),aC cnt 0 d (cnt 0 d+1)⟩ fun st' rs=>dV rs pairs=true/\ pS an A ⟨0,d,cnt 0 d⟩ rs=true/\ R .normal st'):
  Wp L (.drawL l an pairs A) ⟨fr,en,cnt⟩ R:=by
 have hg:l.getD A default={dst:=some d,op:= .alloc z,guard:=none}:=by rw[bSz,hA];rfl
 have hL:jS A ⟨0,d,cnt 0 d⟩ l=l.set A {dst:=some d,op:= .mv (.c (.ptr ⟨0,d,cnt 0 d⟩ 0)),guard:=none}:=by unfold jS aBk;rw[hg]
 have hK:iZ ⟨fr,en,cnt⟩ {dst:=some d,op:= .alloc z,guard:=none}=⟨0,d,cnt 0 d⟩:=rfl
 refine .inl ?_
 rw[hg,hK,hL];exact uY _ (zH _ h) fun s rs ⟨fs,h1,h2,h3,h4⟩=>⟨by rw[bSw];exact⟨sL h1 _ h2,aPy h1 h3⟩,h4⟩
theorem aUe {L:bH}{R:Ex->St->Prop}(hA:l[A]?=some {dst:=some d,op:= .alloc z,guard:=none})(j:Nat){o:aN}
  (hj:(l.set A {dst:=some d,op:= .mv (.c (.ptr ⟨0,d,cnt 0 d⟩ 0)),guard:=none})[j]?=some o) (ht:aGe an j (l.set A {dst:=some d,op:= .mv (.c (.ptr ⟨0,d,cnt 0 d⟩ 0)),guard:=none})=true)
  (h:kV L ((l.set A {dst:=some d,op:= .mv (.c (.ptr ⟨0,d,cnt 0 d⟩ 0)),guard:=none}).take j) ⟨fr,en.set ⟨0,d,cnt 0 d⟩ (some (.box z false)),aC cnt 0 d (cnt 0 d+1)⟩ fun st1 fs=>
   ((dV (fs++List.replicate ((l.set A {dst:=some d,op:= .mv (.c (.ptr ⟨0,d,cnt 0 d⟩ 0)),guard:=none}).length-j) tE) pairs&&
    jW an j (l.set A {dst:=some d,op:= .mv (.c (.ptr ⟨0,d,cnt 0 d⟩ 0)),guard:=none}) (fs++List.replicate ((l.set A {dst:=some d,op:= .mv (.c (.ptr ⟨0,d,cnt 0 d⟩ 0)),guard:=none}).length-j) tE))&&
    pS an A ⟨0,d,cnt 0 d⟩ (fs++List.replicate ((l.set A {dst:=some d,op:= .mv (.c (.ptr ⟨0,d,cnt 0 d⟩ 0)),guard:=none}).length-j) tE))=true/\
   kS L o st1 fun v st2=>R (.panic v) ⟨fun t=>if nB (l.set A {dst:=some d,op:= .mv (.c (.ptr ⟨0,d,cnt 0 d⟩ 0)),guard:=none}) t then .tup []else st2.fr t,st2.en,st2.cnt⟩):
  Wp L (.drawL l an pairs A) ⟨fr,en,cnt⟩ R:=by
 have hg:l.getD A default={dst:=some d,op:= .alloc z,guard:=none}:=by rw[bSz,hA];rfl
 have hL:jS A ⟨0,d,cnt 0 d⟩ l=l.set A {dst:=some d,op:= .mv (.c (.ptr ⟨0,d,cnt 0 d⟩ 0)),guard:=none}:=by unfold jS aBk;rw[hg]
 have hK:iZ ⟨fr,en,cnt⟩ {dst:=some d,op:= .alloc z,guard:=none}=⟨0,d,cnt 0 d⟩:=rfl;obtain⟨h1,h2⟩:=aYk (R:=fun v st=>R (.panic v) st) (C:=fun fs=>((dV fs pairs&&jW an j (l.set A {dst:=some d,op:= .mv (.c (.ptr ⟨0,d,cnt 0 d⟩ 0)),guard:=none}) fs)&&pS an A ⟨0,d,cnt 0 d⟩ fs)=true) j hj ht (fun fs rs hs hc=>by
  rw[bSw,bSw]at hc⊢;exact⟨⟨sL hs _ hc.1.1,aE4 hs hc.1.2⟩,aPy hs hc.2⟩) h
 refine .inr ⟨j,o,?_⟩
 rw[hg,hK,hL];exact⟨hj,h1,h2⟩
section
variable {L :bH}{K:Val->St->Prop}
def WPx (L:bH)(f:Nat)(args:List Val)(K:Val->Prop):Prop:= ∃v,PX L f args v/\ K v
@[congr] theorem bK7 {K:Val->Prop}(h:a=a'):WPx L f a K=WPx L f a' K:=by rw[h]
theorem _root_.Go.Abs.PX.det {L:bH}{s:Val}(h:PX L f args r)(k:PX L f args s):s=r:=by
 obtain⟨n,h⟩:=h;obtain⟨m,k⟩:=k;have h1:=h (max n m) (by omega);have h2:=k (max n m) (by omega)
 rw[h1]at h2;cases h2;rfl
theorem _root_.Go.Abs.PX.ret {L:bH}(h:PX L f args r){K:Val->Prop}:WPx L f args K=K r:=
 propext ⟨fun⟨s,h1,h2⟩=>h.det h1▸h2,fun h2=>⟨r,h,h2⟩⟩
def bC8 (L:bH)(f:Nat)(o:Option (List (Val×List Key)))(K:Val->Prop):Prop:=
 match o with
 |some rs=>WPx L f (rs.map (·.1.wk1)) K
 |none=>False
@[congr] theorem bJq {o:Option (List (Val×List Key))}{K:Val->Prop}(h:o=o'):bC8 L f o K=bC8 L f o' K:=by rw[h]
@[go_sem] theorem bSs {rs:List (Val×List Key)}{K:Val->Prop}:bC8 L f (some rs) K=WPx L f (rs.map (·.1.wk1)) K:=(rfl)
@[congr] theorem bH2 {o:aN}:kS L o st K=kS L o st K:=(rfl)
@[go_sem] theorem bM2 {args:List Opd}:kS L ⟨dst,.call (.f f) args,none⟩ ⟨fr,en,cnt⟩ K=bC8 L f (cY (snapD 8 en) (args.map (St.get fr))) fun v=>K v ⟨fr,en,cnt⟩:=by
 simp only[kS,wanted,Opd.noM,St.get,bT4,bT1,bC8,WPx]
 all_goals cases cY (snapD 8 en) (List.map (St.get fr) args)<;>rfl
@[congr] theorem bJr {K:Val->En->(Nat->Nat->Nat)->Prop}(h:a=a'):xI L f a en cnt K=xI L f a' en cnt K:=by rw[h]
def aUf (L:bH)(f:Val)(args:List Val)(en:En)(cnt:Nat->Nat->Nat)(K:Val->En->(Nat->Nat->Nat)->Prop):Prop:=
 match f with
 | .fn f a b=>xI L f (a++args++b) en cnt K
 |_=>False
@[congr] theorem bH3 {f:Val}{K:Val->En->(Nat->Nat->Nat)->Prop}(h:f=f')(h':a=a'):aUf L f a en cnt K=aUf L f' a' en cnt K:=by rw[h,h']
@[go_sem] theorem bK8 {f:Opd}{args:List Opd}:kS L ⟨dst,.icall f args,none⟩ ⟨fr,en,cnt⟩ K=aUf L (St.get fr f) (args.map (St.get fr)) en cnt fun v en' cnt'=>K v ⟨fr,en',cnt'⟩:=by
 simp only[kS,wanted,aUf]
 all_goals cases St.get fr f<;>rfl
@[go_sem] theorem bSo {b:List Val}{K:Val->En->(Nat->Nat->Nat)->Prop}:aUf L (.fn f a b) args en cnt K=xI L f (a++args++b) en cnt K:=(rfl)
def aUg (v:Val)(K:Val->Prop):Prop:=match v with
 | .ifc t u=>(Val.ifc t u).flat=true/\ K (.ifc t u)
 |_=>False
@[congr] theorem bH4 {K:Val->Prop}(h:v=v'):aUg v K=aUg v' K:=by rw[h]
@[go_sem] theorem bK9 :kS L ⟨dst,.panic x,none⟩ ⟨fr,en,cnt⟩ K=aUg (St.get fr x) fun v=>K v ⟨fr,en,cnt⟩:=by
 simp only[kS,wanted,aUg]
 all_goals cases St.get fr x<;>rfl
@[go_sem] theorem bSp {u:Val}{K:Val->Prop}:aUg (.ifc t u) K=((Val.ifc t u).flat=true/\ K (.ifc t u)):=(rfl)
end
def aGf (P:Program)(g:Nat):List Nat:=(P.funcs[g]?).elim [] P.leadsTo
theorem aRq {P:Program}{G:Nat->Prop}(hc: ∀g,G g-> ∀h∈aGf P g,G h): ∀(n:Nat) (todo seen:List Nat),(∀g∈todo,G g)->(∀g∈seen,G g)-> ∀g∈P.closureVia n todo seen,G g
 |0,_,seen,_,hs=>fun g hg=>hs g (by simpa[Program.closureVia]using hg)
 |n+1,[],seen,_,hs=>fun g hg=>hs g (by simpa[Program.closureVia]using hg)
 |n+1,f::todo,seen,ht,hs=>by
  rw[Program.closureVia];split
  ·exact aRq hc n todo seen (fun g hg=>ht g (bU4 _ hg)) hs
  ·refine aRq hc n _ _ (fun g hg=>?_) (fun g hg=>?_)
   ·rcases bTn.1 hg with h|h
    ·exact hc f (ht f bWa) g h
    ·exact ht g (bU4 _ h)
   ·rcases bTp.1 hg with rfl|h
    ·exact ht g bWa
    ·exact hs g h
def rest (P:Program)(seen:List Nat):List Nat->Nat
 |[]=>0
 |g::l=>(if seen.contains g then 0 else(aGf P g).length)+rest P seen l
theorem aRr {P:Program}{seen:List Nat}(f:Nat): ∀l,rest P (f::seen) l<=rest P seen l
 |[]=>bSx _
 |g::l=>by
  have:=aRr (P:=P) (seen:=seen) f l;simp only[rest,List.contains_cons]
  by_cases h:(g==f)=true<;>by_cases h2:seen.contains g=true<;>simp[h,h2]<;>omega
theorem aPz {P:Program}{seen:List Nat}{f:Nat}(hf:seen.contains f=false): ∀l,f∈l->rest P (f::seen) l+(aGf P f).length<=rest P seen l
 |[],h=>by cases h
 |g::l,h=>by
  have h1:=aRr (P:=P) (seen:=seen) f l;simp only[rest,List.contains_cons]
  by_cases e:g=f
  ·subst e;simp only[beq_self_eq_true,Bool.true_or,if_true,hf,bS0,if_false];omega
  ·have hm:f∈l:=by
    rcases bTp.1 h with h|h
    ·exact absurd h.symm e
    ·exact h
   have h2:=aPz (P:=P) hf l hm;have:(g==f)=false:=by simpa using e
   simp only[this,bTz];omega
theorem aRs {P:Program}: ∀(n:Nat) (todo seen:List Nat),todo.length+rest P seen (List.range P.funcs.size)<=n->(∀g∈seen,∀h∈aGf P g,h∈seen \/h∈todo)->
  (∀g,g∈seen \/g∈todo->g∈P.closureVia n todo seen)/\ ∀g∈P.closureVia n todo seen,∀h∈aGf P g,h∈P.closureVia n todo seen
 |0,todo,seen,hn,hi=>by
  have:todo=[]:=bWi.1 (by omega)
  subst this
  refine⟨fun g hg=>?_,fun g hg h hh=>?_⟩
  ·rcases hg with h|h
   ·simpa[Program.closureVia]using h
   ·cases h
  ·have hg':g∈seen:=by simpa[Program.closureVia]using hg
   rcases hi g hg' h hh with h|h
   ·simpa[Program.closureVia]using h
   ·cases h
 |n+1,[],seen,hn,hi=>by
  refine⟨fun g hg=>?_,fun g hg h hh=>?_⟩
  ·rcases hg with h|h
   ·simpa[Program.closureVia]using h
   ·cases h
  ·have hg':g∈seen:=by simpa[Program.closureVia]using hg
   rcases hi g hg' h hh with h|h
   ·simpa[Program.closureVia]using h
   ·cases h
 |n+1,f::todo,seen,hn,hi=>by
  rw[Program.closureVia]
  by_cases hf:seen.contains f=true
  ·rw[if_pos hf];have hfs:f∈seen:=by simpa using hf
   simp only[bS8]at hn;obtain⟨a,b⟩:=aRs (P:=P) n todo seen (by omega) (fun g hg h hh=>by
    rcases hi g hg h hh with h1|h1
    ·exact .inl h1
    ·rcases bTp.1 h1 with rfl|h1
     ·exact .inl hfs
     ·exact .inr h1)
   refine⟨fun g hg=>a g ?_,b⟩
   rcases hg with h|h
   ·exact .inl h
   ·rcases bTp.1 h with rfl|h
    ·exact .inl hfs
    ·exact .inr h
  ·rw[if_neg hf];have hf':seen.contains f=false:=by simpa using hf
   have hlen:(aGf P f).length+rest P (f::seen) (List.range P.funcs.size)<=rest P seen (List.range P.funcs.size):=by
    by_cases hs:f<P.funcs.size
    ·have:=aPz (P:=P) hf' _ (bTx.2 hs);omega
    ·have:aGf P f=[]:=by unfold aGf;rw[Array.getElem?_eq_none (by omega)];rfl
     rw[this];have:=aRr (P:=P) (seen:=seen) f (List.range P.funcs.size)
     simpa using this
   simp only[bS8]at hn;obtain⟨a,b⟩:=aRs (P:=P) n (aGf P f++todo) (f::seen) (by simp only[bTg];omega) (fun g hg h hh=>by
    rcases bTp.1 hg with rfl|hg
    ·exact .inr (bVb _ hh)
    ·rcases hi g hg h hh with h1|h1
     ·exact .inl (bU4 _ h1)
     ·rcases bTp.1 h1 with rfl|h1
      ·exact .inl bWa
      ·exact .inr (bUn _ h1))
   refine⟨fun g hg=>a g ?_,b⟩
   rcases hg with h|h
   ·exact .inl (bU4 _ h)
   ·rcases bTp.1 h with rfl|h
    ·exact .inl bWa
    ·exact .inr (bUn _ h)
theorem aUh {P:Program}: ∀(l:List Func) (k:Nat),(∀i,i<l.length->P.funcs[k+i]?=l[i]?)->rest P [] (List.range' k l.length)<=(l.map fun g=>(P.leadsTo g).length+1).sum
 |[],_,_=>bS4 _
 |g::l,k,h=>by
  have h0:=h 0 (by simp)
  have ih:=aUh (P:=P) l (k+1) (fun i hi=>by
   have:=h (i+1) (by simp;omega)
   rw[show k+1+i=k+(i+1)by omega,this];rfl)
  simp only[bUk,bVl]at h0;have e:aGf P k=P.leadsTo g:=by unfold aGf;rw[h0];rfl
  simp only[bS8,bVp,rest,e,bTv,List.sum_cons];have:([]:List Nat).contains k=false:=rfl;rw[this];simp only[bS0,if_false];omega
theorem tF (P:Program)(f:Nat):f∈P.closure f/\ ∀g∈P.closure f,∀h∈aGf P g,h∈P.closure f:=by
 have hr:=aUh (P:=P) P.funcs.toList 0 (fun i _=>by simp)
 rw[<-bVz,bVa]at hr;obtain⟨a,b⟩:=aRs (P:=P) (1+(P.funcs.toList.map fun g=>(P.leadsTo g).length+1).sum) [f] [] (by simp only[bS8,bTd];omega) (fun g hg=>by cases hg)
 exact⟨a f (.inr bWa),b⟩
variable {fn:Func}
theorem kW {h:Nat}(hg:g∈P.closure f)(hfn:P.funcs[g]?=some fn)(hh:(P.leadsTo fn).contains h=true):h∈P.closure f:=
 (tF P f).2 g hg h (by unfold aGf;rw[hfn];simpa using hh)
theorem bJs {q:Func->Nat->Bool}(h:(P.funcs.toList.zipIdx.all fun p=>q p.1 p.2)=true)(hfn:P.funcs[g]?=some fn):q fn g=true:=by
 rw[bS5]at h;exact h (fn,g) (by rw[List.mem_zipIdx_iff_getElem?];simpa using hfn)
def bH5 (P:Program)(good:Nat→Bool):Bool:=P.funcs.toList.zipIdx.all fun p=>(p.1.body.elim [] Code.globalsNamed).isEmpty&&(!good p.2||((P.leadsTo p.1).all good&&!(p.1.ours||p.1.body.isNone||p.1.name== "runtime.NumGoroutine")))
theorem uK {good:Nat->Bool}(h:bH5 P good=true)(hf:good f=true):P.inPlace f=[]/\ P.varsNamed f=[]:=by
 have hz:=fun g fn hfn=>bJs (q:=fun a b=>(a.body.elim [] Code.globalsNamed).isEmpty&&(!good b||((P.leadsTo a).all good&&!(a.ours||a.body.isNone||a.name== "runtime.NumGoroutine")))) h (g:=g) (fn:=fn) hfn
 have hg: ∀g∈P.closure f,good g=true:=by
  refine aRq (P:=P) (G:=fun g=>good g=true) (fun g hg x hx=>?_) _ _ _ (fun g hg=>?_) (fun g hg=>by cases hg)
  ·unfold aGf at hx;cases hfn:P.funcs[g]? with
   |none=>rw[hfn]at hx;cases hx
   |some fn=>
    rw[hfn]at hx;have:=hz g fn hfn;simp only[hg,bS6,bTz,bSw,bS5]at this;exact this.2.1 x hx
  ·rw[bUg.1 hg];exact hf
 have hodd: ∀g∈P.closure f,∀fn,P.funcs[g]?=some fn→(fn.ours||fn.body.isNone||fn.name== "runtime.NumGoroutine")=false:=fun g h1 fn hfn=>by
  have:=hz g fn hfn;simp only[hg g h1,bS6,bTz,bSw]at this
  simpa using this.2.2
 constructor
 ·unfold Program.inPlace;rw[List.filterMap_eq_nil_iff];intro g h1;cases hfn:P.funcs[g]? with
  |none=>rfl
  |some fn=>
   simp only[bVt];rw[hodd g h1 fn hfn];rfl
 ·unfold Program.varsNamed;have e1:((P.closure f).flatMap fun g=>((P.funcs[g]?).bind (·.body)).elim [] Code.globalsNamed)=[]:=by
   rw[List.flatMap_eq_nil_iff];intro g h1;cases hfn:P.funcs[g]? with
   |none=>rfl
   |some fn=>
    have:=hz g fn hfn;simp only[bSw,bV2]at this;simp only[bVt];exact this.1
  have e2:((P.closure f).filterMap fun g=>(P.funcs[g]?).bind fun fn=>if fn.body.isNone then entryReads.lookup fn.name else none)=[]:=by
   rw[List.filterMap_eq_nil_iff];intro g h1;cases hfn:P.funcs[g]? with
   |none=>rfl
   |some fn=>
    have:=hodd g h1 fn hfn;simp only[Bool.or_eq_false_iff]at this;simp only[bVt,this.1.2,bS0,if_false]
  rw[e1,e2];rfl
theorem aRt (hg:g∈P.closure f)(hfn:P.funcs[g]?=some fn)(h:(match fn.body with|some c=>c.unfollowed|none=>entryCalls fn)=true):P.unfollowed f=true/\ P.recurses f=true:=by
 have:P.unfollowed f=true:=by
  unfold Program.unfollowed;rw[bVv];exact⟨g,hg,by rw[hfn];exact h⟩
 exact⟨this,by unfold Program.recurses;rw[this];rfl⟩
def orC (m c:bE):bE:=fun f a=>match m f a with
 |some r=>some r
 |none=>c f a
def unC (m c:bE):bE:=fun f a=>match m f a with
 |some _=>none
 |none=>c f a
def aMg (L:bH)(m:bE):Nat->bB->St->Option (Ex×St)
 |0=>fun _ _=>none
 |n+1=>uD L (aMg L m n) (orC m (bP L 8 (aMg L m n))) (unC m (cT L (aMg L m n)))
theorem aUi {L:bH}{m:bE}{N:Nat}(hm:CLe m (mB L N)): ∀n,XLe (aMg L m n) (exec L (N+n))
 |0=>fun c s r h=>by simp[aMg]at h
 |n+1=>by
  have ih:=aUi hm n;rw[show N+(n+1)=(N+n)+1 from rfl,aH9]
  refine aYd ih (fun f a r h=>?_) (fun f a r h=>?_)
  ·unfold orC at h
   split at h
   ·rename_i hq;cases h;exact aB9 (by omega) (hm _ _ _ hq)
   ·exact zD ih _ _ _ h
  ·unfold unC at h
   split at h
   ·cases h
   ·exact aT1 ih _ _ _ h
structure eH where
 f:Nat
 a:List Val
 r:Val
def aUj :List eH->bE
 |[],_,_=>none
 |e::l,f,a=>if e.f=f then(if sF (sZ 50) e.a a=true then some e.r else aUj l f a)else aUj l f a
def fT (L:bH)(l:List eH):Prop:= ∃N,CLe (aUj l) (mB L N)
theorem fT.nil {L:bH}:fT L []:=⟨0,fun _ _ _ h=>by simp[aUj]at h⟩
theorem fT.pc {L:bH}{l:List eH}(h:fT L l){n:Nat}{a:List Val}(hr:bP L 8 (aMg L (aUj l) n) f a=some r):PC L f a r:=by
 obtain⟨N,hN⟩:=h;exact bI9 (zD (aUi hN n) _ _ _ hr)
theorem fT.add {L:bH}{l:List eH}(h:fT L l){a:List Val}(hr:PC L f a r):fT L (⟨f,a,r⟩::l):=by
 obtain⟨N,hN⟩:=h;obtain⟨M,hM⟩:=hr
 refine⟨N+M,fun g b q hq=>?_⟩
 simp only[aUj]at hq
 split at hq
 ·rename_i e1
  split at hq
  ·rename_i e2;cases hq;subst e1;cases aFm (aFn 50) e2;exact hM _ (by omega)
  ·exact aB9 (by omega) (hN _ _ _ hq)
 ·exact aB9 (by omega) (hN _ _ _ hq)
theorem fT.step {L:bH}{e:eH}{l:List eH}(h:fT L l)(hr:bP L 8 (aMg L (aUj l) 1000) e.f e.a=some e.r):fT L (e::l):=h.add (h.pc hr)
theorem fT.one {L:bH}{e:eH}{l:List eH}(h:fT L (e::l)):fT L [e]:=by
 obtain⟨N,hN⟩:=h
 refine⟨N,fun f a r hr=>hN f a r ?_⟩
 simp only[aUj]at hr⊢
 split at hr
 ·rename_i e1
  split at hr
  ·rename_i e2;rw[if_pos e1,if_pos e2];exact hr
  ·cases hr
 ·cases hr
end Go.Abs
