import Derived.Test.YtmafmhjndjmalaaGreatHxBd
import Derived.RecoverIn
import Derived.KernelRfl
import Derived.ProofKit
import Derived.OpenShut
import Derived.JoinedOf
import Derived.Test.YtmafmhjndjmalaaGreatHxAd
import Derived.IntWalk
import Derived.ChangeArms
import Derived.ChangeBears
set_option linter.all false
open Array renaming getD_eq_getD_getElem? -> bQy, getElem?_append -> bTd, getElem?_eq_getElem -> bQ4, getElem?_eq_some_iff -> bSd, getElem_toList -> bTf, length_toList -> bSt, mapM_eq_mapM_toList -> bT5, size_append -> bTl
open Bool renaming and_eq_true -> bQj, and_false -> bRp, and_true -> bRy, false_and -> bQ7, false_eq_true -> bQm, false_or -> bRf, not_eq_true -> bRu, not_eq_true' -> bRw, not_false -> bQ5, not_true -> bQ0, or_eq_true -> bRr, or_true -> bSj, true_and -> bQ9
open Int renaming natCast_nonneg -> bS7, toNat_natCast -> bRh
open List renaming all_cons -> bSs, all_eq_true -> bQp, any_eq_true -> bTg, append_nil -> bRk, cons_append -> bS2, drop_eq_getElem_cons -> bRt, drop_eq_nil_iff -> bTs, drop_zero -> bSm, flatMap_cons -> bS5, flatMap_nil -> bSn, foldl_nil -> bS4, getD_cons_zero -> bTi, getD_eq_getElem?_getD -> bQn, getElem?_append -> bTc, getElem?_cons_succ -> bTz, getElem?_cons_zero -> bS6, getElem?_eq_getElem -> bRq, getElem?_eq_some_iff -> bT4, getElem_mem -> bQr, isEmpty_iff -> bTn, length_append -> bQ2, length_cons -> bQu, length_eq_zero_iff -> bT2, length_map -> bQl, length_nil -> bQz, map_congr_left -> bSx, map_cons -> bRj, map_nil -> bQ1, mem_append -> bRb, mem_append_left -> bSu, mem_append_right -> bSe, mem_cons -> bRm, mem_cons_of_mem -> bSo, mem_cons_self -> bTv, mem_flatMap -> bRx, mem_map -> bRe, mem_range -> bRi, mem_singleton -> bR3, nil_append -> bRo, range'_succ -> bTk, range_eq_range' -> bTr, range_succ -> bTp, set_cons_succ -> bSl, set_cons_zero -> bSk, take_succ_cons -> bQs, take_zero -> bQq
open Nat renaming add_zero -> bR5, le_refl -> bQk, zero_add -> bRg, zero_le -> bQt
open Option renaming bind_eq_bind -> bQ6, bind_eq_some_iff -> bQx, bind_some -> bTe, getD_some -> bRc, isNone_iff_eq_none -> bTo, isSome_none -> bSr, map_eq_some_iff -> bQw, map_some -> bRd, pure_def -> bQ8
open Option.some renaming injEq -> bQi
open Prod.mk renaming injEq -> bQo
namespace Go.Abs
open Go.RowKit (Below)
variable [Inhabited mN]
def Ex.mode (x:Value):Ex->FrameMode
 | .panic _=> .panicking (yP x)
 |_=> .returning
variable {e:Ex}
theorem Ex.mode_run {x:Value}:e.mode x≠ .run:=by cases e<;>simp[Ex.mode]
variable {I:Operand->Bool}{P:Program}{lc:aY}{ops:Array Oper}{ts:List Nat}
theorem aQ9 {k:Call}{y:Code}(h:aTr P I ts ops k y=some lc):
  ∃F f args l,k.callee= .value F/\ aO F=some f/\ jK k.args.toList=some args/\ cP (fE P I ops) ops.toList.dropLast=some l/\ lc= .dfr ts l f args (cB P I y):=by
 simp only[aTr]at h
 split at h
 case h_2=>cases h
 rename_i F hF
 split at h
 case h_2=>cases h
 rename_i f args l h1 h2 h3;simp only[bQi]at h;exact⟨F,f,args,l,hF,h1,h2,h3,h.symm⟩
variable {c:Code}
theorem bAk (h:aBk P I ts c=some lc):lc.isRcv=false:=by
 cases c<;>simp only[aBk,reduceCtorEq]at h
 split at h
 ·obtain⟨_,_,_,_,_,_,_,_,rfl⟩:=aQ9 h;rfl
 ·split at h
  ·simp only[bQi]at h;subst h;rfl
  ·cases h
variable {l:List aL}
theorem bDr {dst:Option Nat}{b:aY}(h:aD1 P I ts c=some (.rcv dst l b)):
  ∃id ops c' o rest,c= .seq (.region id ops false) c'/\ ops.toList=o::rest/\ aFu o=true/\ rest.all aOe=true/\ cP (fE P I ops) rest=some l/\ dst=o.dst/\ b=cB P I c'/\ (cB P I c').noRg=true:=by
 simp only[aD1]at h
 split at h
 ·rename_i x hx;simp only[bQi]at h;subst h;unfold aTs at hx
  split at hx
  case h_2=>cases hx
  rename_i id ops c'
  split at hx
  case h_2=>cases hx
  rename_i o rest ho
  split at hx
  case isFalse=>cases hx
  rename_i hc;simp only[bQj]at hc;obtain⟨l',hl,he⟩:=bQw.1 hx;simp only[aY.rcv.injEq]at he;obtain⟨rfl,rfl,rfl⟩:=he;exact⟨_,ops,c',o,rest,rfl,ho,hc.1.1,hc.1.2,hl,rfl,rfl,hc.2⟩
 ·split at h
  ·rename_i x hx;simp only[bQi]at h;subst h;have:=bAk hx;cases this
  ·split at h
   ·cases h
   ·rename_i hn;simp only[bQi]at h;rw[h]at hn;simp[aY.isRcv]at hn
variable {call:bD}{io:Inl}{n B:Nat}{S:Nat->Nat->Prop}{Ξ:Env}
section
variable {N:Nat}{ro:Option Nat}{m:Nat}
theorem bDs (hcall:lK P call)(hio:wY P io)(hl: ∀i (h:i<l.length),∃h':i<ops.size,fE P I ops ops[i]=some l[i])(hd:l.all (fun o=>o.dst.all (· <N))=true){Q:Exit->Act->World->Prop}{rest:List Nat}:
  ∀(k i:Nat) (st st':St) (G:Gh) (a:Act) (w:World),i+k=l.length->Rel P Ξ B S G st N a w->gE n call io 0 (l.drop i) st=some st'->
   (∀a' w' G',Rel P Ξ B S G' st' N a' w'->Below B w w'->wpOpsIn (Fx ro) m P ops Q rest a' w')->wpOpsIn (Fx ro) m P ops Q (List.range' i k++rest) a w:=by
 intro k
 induction k with
 |zero=>
  intro i st st' G a w hik hR hrun hQ;have:l.drop i=[]:=bTs.2 (by omega)
  rw[this]at hrun;simp only[gE,bQi]at hrun;subst hrun;exact hQ a w G hR (Below.refl _ _)
 |succ k ih=>
  intro i st st' G a w hik hR hrun hQ;have hil:i<l.length:=by omega
  obtain⟨hi,hlow⟩:=hl i hil;rw[bRt hil]at hrun;simp only[gE]at hrun
  split at hrun
  case h_2=>cases hrun
  rename_i st1 r hs;rw[bTk,bS2,wpOpsIn_cons];unfold wpOpIn;rw[bQ4 hi];exact oU hcall hio hR hlow (bQp.1 hd _ (bQr hil)) hs fun a' w' G' h1 h2=>
   ih (i+1) st1 st' G' a' w' (by omega) h1 hrun fun a'' w'' G'' h3 h4=>hQ a'' w'' G'' h3 (h2.trans h4)
theorem aRa (hl: ∀i (h:i<l.length),∃h':i+1<ops.size,aOe ops[i+1]=true/\ fE P I ops ops[i+1]=some l[i])(hd:l.all (fun o=>o.dst.all (· <N))=true){Q:Exit->Act->List Frame->World->Prop}{cs:List Frame}{w:World}:
  ∀(k i:Nat) (st st':St) (G:Gh) (a:Act),i+k=l.length->Rel P Ξ B S G st N a w->gE n call io 0 (l.drop i) st=some st'->
   (∀a' G',Rel P Ξ B S G' st' N a' w->Q .normal a' cs w)->wpOpsSIn Fence.wide m P ops Q (List.range' (i+1) k) a cs w:=by
 intro k
 induction k with
 |zero=>
  intro i st st' G a hik hR hrun hQ;have:l.drop i=[]:=bTs.2 (by omega)
  rw[this]at hrun;simp only[gE,bQi]at hrun;subst hrun;exact hQ a G hR
 |succ k ih=>
  intro i st st' G a hik hR hrun hQ;have hil:i<l.length:=by omega
  obtain⟨hi,hmv,hlow⟩:=hl i hil;rw[bRt hil]at hrun;simp only[gE]at hrun
  split at hrun
  case h_2=>cases hrun
  rename_i st1 r hs;have hdi:=bQp.1 hd _ (bQr hil);rw[bTk];simp only[wpOpsSIn,bQ4 hi]
  refine⟨fun _ _=>trivial,?_⟩
  simp only[fE,bQ6,bQx,bQ8,bQi]at hlow;obtain⟨lop,hop,g,hg,he⟩:=hlow;have hmv': ∃x,(ops[i+1].op= .assign x \/ops[i+1].op= .move x)/\ ops[i+1].guard=none:=by
   unfold aOe at hmv
   split at hmv
   ·rename_i h1 h2;exact⟨_,.inl h1,h2⟩
   ·rename_i h1 h2;exact⟨_,.inr h1,h2⟩
   ·cases hmv
  obtain⟨x,hx,hgd⟩:=hmv';have hw:Region.wanted ops[i+1] (yielded ops a.tmps)=true:=by simp[Region.wanted,hgd]
  have hrun1:(execOp a.eval ops[i+1]).run P w= .ok (.value (a.eval x)) w:=by
   rcases hx with hx|hx<;>simp[execOp,hx]
  obtain⟨y,hy,hlop⟩: ∃y,aO x=some y/\ lop= .mv y:=by
   rcases hx with hx|hx<;>rw[hx]at hop<;>(obtain⟨y,h1,h2⟩:=bQw.1 hop;exact⟨y,h1,h2.symm⟩)
  have hg':g=none:=by rw[hgd]at hg;simpa[aAa]using hg.symm
  rw[<-he,hlop,hg']at hs;rw[<-he]at hdi;simp only[step,wanted,eval,bQ7,bQm,if_false,W.applyAll,bS4,bQi,bQo]at hs;obtain⟨rfl,rfl⟩:=hs;simp only[hw,if_true,hrun1];exact ih (i+1) _ st' G _ (by omega) (hR.putO' ops[i+1].dst (aU hR hy) hdi) hrun hQ
end
variable {st':St}
theorem aRb {L:bG}(hL:pU P L)(hE:wH P L n)(hcall:lK P (bI L 8 (exec L n)))(hio:wY P (eQ L (exec L n))){g:Nat}{A args Z:List Val}{st:St}
  (h:iC L (exec L n) (.fn g A Z) args e st=some st'):st'.fr=st.fr∧(∃fn,P.funcs[g]?=some fn∧(fn.name== "runtime.NumGoroutine")=false∧fn.body.isNone=false)∧
  ∀(Ξ:Env) (B:Nat) (S:Nat->Nat->Prop) (G:Gh) (N:Nat) (a:Act) (w:World) (vals:Array Value) (x:Value) (m:Nat),e.val x->Rel P Ξ B S G st N a w->vals.size=(A++args++Z).length->
   (∀i,i<(A++args++Z).length->VR (aX B S G w.heap.size) G w ((A++args++Z).getD i .dead) (vals.getD i undef))->
   CallsDIn Fence.wide m P g vals (e.mode x) w fun ed u' w'=> ∃G' y,ed= .returned y/\ settle u'= .returning/\ Rel P Ξ B S G' st' N a w'/\ Below B w w':=by
 simp only[iC]at h
 split at h
 case h_2=>cases h
 rename_i lf hlf
 split at h
 case h_2=>cases h
 rename_i dst l cb v hbody hrv
 split at h
 case isFalse=>cases h
 rename_i hc;obtain⟨hlen,hres0⟩:=hc
 split at h
 case h_2=>cases h
 rename_i st1 hmoves
 split at h
 case h_2=>cases h
 rename_i e' st2 hx
 split at h
 case isFalse=>cases h
 rename_i hends;simp only[bQi]at h;subst h;obtain⟨fn,I,keep,amb,hfn,hlow⟩:=hL g lf hlf;obtain⟨c,hb,hlb,hdst,hnp,hname,hres⟩:=wZ hlow;rw[hbody]at hlb hdst;obtain⟨id,ops,c',o,rest,rfl,hops,hrec,hmv,hl,rfl,rfl,hnr⟩:=bDr hlb
 refine⟨rfl,⟨fn,hfn,hname,by rw[hb];rfl⟩,fun Ξ B S G N a w vals x m hxv hR hvl hv=>?_⟩
 simp only[aY.dstOk,bQj]at hdst;obtain⟨⟨hd1,hd2⟩,hd3⟩:=hdst;obtain⟨Ds0,q1,q2,q3⟩:=hR.marks;have hR1:=aF2 (st0:=st) (fn:=fn) (nm:=true) hR q3 rfl rfl hvl (by omega) hv
 have hsz:ops.size=rest.length+1:=by
  have:=congrArg List.length hops
  simpa using this
 have h0:ops[0]?=some o:=by
  have:ops.toList[0]?=some o:=by rw[hops];rfl
  simpa using this
 have hro: ∃cl,o.op= .call cl/\ cl.callee= .builtin .recover/\ o.guard=none:=by
  unfold aFu at hrec
  split at hrec
  ·rename_i cl h1 h2
   split at hrec
   ·rename_i h3;exact⟨cl,h1,h3,h2⟩
   ·cases hrec
  ·cases hrec
 obtain⟨cl,ho1,ho2,ho3⟩:=hro;obtain⟨m1,m2⟩:=fH hl
 refine callsDIn_of_wpSIn hfn hb trivial fun c₀ cs hmode=>?_
 refine wpSIn_seq (wpSIn_region ?_)
 rw[hsz,bTr,bTk];simp only[wpOpsSIn,h0]
 refine⟨fun _ _=>trivial,?_⟩
 have hw:Region.wanted o (yielded ops (act0 fn vals).tmps)=true:=by simp[Region.wanted,ho3]
 have hrunr: ∀(ρ:Operand->Value) (w:World),(execOp ρ o).run P w= .ok .recover w:=by
  intro ρ w;simp[execOp,ho1,resolve,ho2,invoke,builtin]
 unfold act0 at hw;simp only[hw,if_true,hrunr];have behindR: ∀(y:Value) (u':FrameMode),settle u'= .returning->FV v y->
   wpOpsSIn Fence.wide m P ops (Exit.thenS (Code.wpSIn Fence.wide m P c' (bodyPostS P fn c₀ cs fun ed u' w'=> ∃G' y,ed= .returned y/\ settle u'= .returning/\ Rel P Ξ B S G' {fr:=st.fr,en:=st2.en,cnt:=st2.cnt} N a w'/\ Below B w w'))
    (bodyPostS P fn c₀ cs fun ed u' w'=> ∃G' y,ed= .returned y/\ settle u'= .returning/\ Rel P Ξ B S G' {fr:=st.fr,en:=st2.en,cnt:=st2.cnt} N a w'/\ Below B w w')) (List.range' (0+1) rest.length) ((act0 fn vals).put o.dst y) ({c₀ with mode:=u'}::cs) w:=by
  intro y u' hu' hvy;have hR2:=hR1.putO' o.dst (v:=v) (x:=y) (hvy _ _ _) hd1
  refine aRa (N:=fn.ntmps) (st':=st1) (G:=G) (n:=8) (call:=bI L 8 (exec L n)) (io:=eQ L (exec L n)) (l:=l) (I:=I) ?_ hd2 rest.length 0 _ _ (by rw[m1];omega) hR2 (by simpa using hmoves) fun a4 G4 hR4=>?_
  ·intro i hi;have hi':i<rest.length:=by omega
   have hi2:i+1<ops.size:=by omega
   have he:ops[i+1]=rest[i]:=by
    have:ops.toList[i+1]?=rest[i]?:=by rw[hops];rfl
    rw[bRq hi',Array.getElem?_toList,bQ4 hi2]at this;exact Option.some.inj this
   refine⟨hi2,?_,?_⟩
   ·rw[he];exact bQp.1 hmv _ (bQr hi')
   ·rw[he];exact m2 i hi' hi
  ·refine wpSIn_of_wpIn rfl ?_
   refine hE I fn.ntmps c' st1 e' st2 _ B S G4 a4 w _ m hd3 (fun _=>hnr) hR4 hx fun a5 w5 G5 x5 _ hR5 hb5=>?_
   have fin:e'.calm=true->a5.defers=[]/\ ∃u'',({c₀ with mode:=u'}::cs:List Frame)={c₀ with mode:=u''}::cs/\ ∃v,(results fn a5.tmps).run P w5= .ok v w5/\
     ∃G' y,Ending.returned v= .returned y/\ settle u''= .returning/\ Rel P Ξ B S G' {fr:=st.fr,en:=st2.en,cnt:=st2.cnt} N a w5/\ Below B w w5:=by
    intro hcalm;have hR6:=hR5.rel hcalm;obtain⟨Ds,r1,r2,r3⟩:=hR6.marks;have hDs:=r2.2 rfl;subst hDs;have hlr:lf.res=[]:=by simpa using hres0
    rw[hlr]at hres;obtain⟨y5,hy5,_⟩:=wI hR6 hres (vs:=[]) rfl;exact⟨by simpa using r1,u',rfl,y5,hy5,G5,y5,rfl,hu',aF3 (ste:=st2) hR.tmps q1 q2 (fun D hD=>⟨(q3 D hD).1,(q3 D hD).2.1⟩) hR6,hb5⟩
   cases e' with
   |normal=>exact fin rfl
   |ret=>exact fin rfl
   |exit id=>cases hends
   |panic v=>cases hends
 cases e with
 |panic vp=>
  simp only[Ex.mode]at hmode;simp only[Ex.rcvd,bQi]at hrv;subst hrv;have hrc:recoverD (c₀::cs)=some (x,{c₀ with mode:= .panicking [{v:=x,recovered:=true}]}::cs):=by simp[recoverD,hmode,yP]
  simp only[hrc];exact behindR x _ (by simp[settle]) hxv
 |exit id=>cases hrv
 |normal=>
  simp only[Ex.mode]at hmode;simp only[Ex.rcvd,bQi]at hrv;subst hrv;have hrc:recoverD (c₀::cs)=none:=by simp[recoverD,hmode]
  simp only[hrc];have:=behindR .nilIface .returning rfl (fun _ _ _=> .nili)
  have ec:({c₀ with mode:=FrameMode.returning}:Frame)=c₀:=by rw[<-hmode]
  rw[ec]at this;exact this
 |ret=>
  simp only[Ex.mode]at hmode;simp only[Ex.rcvd,bQi]at hrv;subst hrv;have hrc:recoverD (c₀::cs)=none:=by simp[recoverD,hmode]
  simp only[hrc];have:=behindR .nilIface .returning rfl (fun _ _ _=> .nili)
  have ec:({c₀ with mode:=FrameMode.returning}:Frame)=c₀:=by rw[<-hmode]
  rw[ec]at this;exact this
theorem aM0 {α β:Type}{f g:α->Sem β}: ∀{l:List α},(∀x∈l,f x=g x)->l.mapM f=l.mapM g
 |[],_=>by simp
 |x::l,h=>by
  simp only[List.mapM_cons];rw[h x (by simp),aM0 fun y hy=>h y (by simp[hy])]
variable {fn:Func}
theorem aOx {tm tm':Array Value}(h: ∀t∈aD0 fn.results.toList,tm.getD t undef=tm'.getD t undef):results fn tm=results fn tm':=by
 have:(fn.results.mapM fun(rv:ResultVar)=>(match rv with
   | .tmp t=>(pure (tm.getD t undef):Sem Value)
   | .cell c t=>do loadVar t (<-asAddr (tm.getD c undef))))=(fn.results.mapM fun(rv:ResultVar)=>(match rv with
   | .tmp t=>(pure (tm'.getD t undef):Sem Value)
   | .cell c t=>do loadVar t (<-asAddr (tm'.getD c undef)))):=by
  rw[bT5,bT5]
  congr 1
  refine aM0 fun rv hrv=>?_
  have ht:=h (match rv with| .tmp t=>t| .cell c _=>c) (by simp only[aD0,bRe];exact⟨rv,hrv,by cases rv<;>rfl⟩)
  cases rv with
  |tmp t=>simp only at ht⊢;rw[ht]
  |cell c t=>simp only at ht⊢;rw[ht]
 simp only[results];exact congrArg (fun z=>z>>=_) this
theorem bDt {L:bG}(hL:pU P L){R:Ending->World->Prop}{w0:World}(hro:Ξ.ro=none)(ht:Ξ.tail=[])(hnm:Ξ.nm=false)
  (k: ∀a1 w1 G1 x,e.val x->a1.defers=[]->Rel P Ξ B S G1 st' fn.ntmps a1 w1->Below B w0 w1->e.fin P fn a1 w1 R x):
  ∀(n:Nat),(∀m,m<n->wH P L m/\ lK P (bI L 8 (exec L m))/\ wY P (eQ L (exec L m)))-> ∀(y:Code) (ly:aY) (st:St) (G:Gh) (a:Act) (w:World),aBk P I (aD0 fn.results.toList) y=some ly->ly.dstOk fn.ntmps=true->
   exec L n ly st=some (e,st')->Rel P Ξ B S G st fn.ntmps a w->Below B w0 w->y.wpIn (Fx none) 0 P (bodyPostM Fence.wide 0 P fn R) a w:=by
 intro n
 induction n with
 |zero=>intro _ y ly st G a w _ _ hx;simp[exec]at hx
 |succ n ih=>
  intro hall y ly st G a w hly hdst hx hR hB;obtain⟨hE,hcall,hio⟩:=hall n (by omega)
  have hplain: ∀{ro:Option Nat},ro=none->Fx ro=Fx none:=fun h=>by rw[h]
  cases y<;>simp only[aBk,reduceCtorEq]at hly
  rename_i x y
  split at hly
  ·-- the deferred call
   rename_i ops kc hdf;obtain⟨F,f,args,l,hcf,hf,hargs,hl,rfl⟩:=aQ9 hly;unfold aZq at hdf
   split at hdf
   case h_2=>cases hdf
   rename_i id ops'
   split at hdf
   case h_2=>cases hdf
   rename_i o hback
   split at hdf
   case h_2=>cases hdf
   rename_i kc' hop hgd hdo;simp only[bQi,bQo]at hdf;obtain⟨rfl,rfl⟩:=hdf;simp only[aY.dstOk,bQj]at hdst;obtain⟨hd1,hd2⟩:=hdst;rw[exec]at hx
   split at hx
   case h_2=>cases hx
   rename_i st2 hpre
   split at hx
   case h_2=>cases hx
   rename_i eb st3 hbx
   split at hx
   ·cases hx
   rename_i hts;obtain⟨st4,hdfr,he⟩:=bQw.1 hx;simp only[bQo]at he;obtain⟨rfl,rfl⟩:=he;obtain⟨m1,m2⟩:=fH hl;have hne:ops'.size≠0:=by
    intro h0;have:ops'= #[]:=Array.eq_empty_of_size_eq_zero h0;rw[this]at hback;simp at hback
   have hll:l.length=ops'.size-1:=by rw[m1];simp
   have hlast:ops'[l.length]?=some o:=by rw[hll];rw[Array.back?_eq_getElem?]at hback;exact hback
   refine wpIn_seq (wpIn_region ?_)
   rw[show ops'.size=l.length+1 by omega,bTp,bTr]
   refine bDs (N:=fn.ntmps) (Ξ:=Ξ) (B:=B) (S:=S) hcall hio (l:=l) (I:=I) (fun i hi=>?_) hd1 l.length 0 st st2 G a w (by omega) hR (by simpa using hpre) fun a2 w2 G2 hR2 hb2=>?_
   ·have hi':i<ops'.size:=by omega
    refine⟨hi',?_⟩
    have:=m2 i (by simp;omega) hi
    simpa[List.getElem_dropLast]using this
   have hfv:=aU hR2 hf;obtain⟨la,va⟩:=oT hR2 hargs;cases hfn0:St.get st2.fr f with
   |fn g A Z=>?_
   |_=>rw[hfn0]at hdfr;simp[iC]at hdfr
   rw[hfn0]at hdfr hfv;obtain⟨hfr4,⟨gn,hgn,hgname,hgbody⟩,hdef⟩:=aRb hL hE hcall hio hdfr;generalize hgF:a2.eval F=uF at hfv;cases hfv with
   |fn _ _ _ p q hp hq hvp hvq=>
   let dd:Deferred:={target:= .fn (.func g) q,args:=p++kc'.args.map a2.eval};have hrun:(execOp a2.eval o).run P w2= .ok (.defer dd) w2:=by
    simp[execOp,hop,resolve,hcf,hgF,Deferred.ofValue,dd]
   have hinv: ∀W:World,(invoke (.fn (.func g) q) (p++kc'.args.map a2.eval)).run P W= .ok (.enter g (p++kc'.args.map a2.eval++q)) W:=by
    intro W;have hnm': ¬gn.name= "runtime.NumGoroutine" :=by simpa using hgname
    have hbody': ¬gn.body=none:=by intro h;rw[h]at hgbody;cases hgbody
    simp[invoke,callFunc,hgn,hnm',hbody']
   obtain⟨Ds,r1,r2,r3⟩:=hR2.marks;rw[ht,bRk]at r1;rw[wpOpsIn_cons];unfold wpOpIn;simp only[hlast];have hw:Region.wanted o (yielded ops' a2.tmps)=true:=by simp[Region.wanted,hgd]
   simp only[hw,if_true]
   refine⟨fun _ _=>trivial,?_⟩
   rw[show(Fx none).round=none from rfl,Oper.semAt_none,hrun,Oper.uponIn_defer,hdo]
   show Code.wpIn (Fx none) 0 P y (bodyPostM Fence.wide 0 P fn R) {a2 with defers:=dd::a2.defers} w2;let ΞB:Env:={prs:=fun u z=>Ξ.prs u z \/ ∃X x,aO X=some x/\ u=St.get st2.fr x/\ z=a2.eval X,ro:=Ξ.ro,rnd:=Ξ.rnd,defs:=fun D=>Ξ.defs D \/D∈Ds,tail:=dd::Ds.map mark,virt:=Ξ.virt}
   have hRB:Rel P ΞB B S G2 st2 fn.ntmps {a2 with defers:=dd::a2.defers} w2:=
    ⟨hR2.size,hR2.tmps,hR2.frame,⟨[],by simp[ΞB,r1],⟨List.nodup_nil,fun _=>rfl⟩,fun D hD=>by simp at hD⟩,hR2.ents,hR2.freshEn,hR2.freshG,hR2.own,fun u z hu=>by
     rcases hu with(hu|⟨X,x,h1,rfl,rfl⟩)|hu
     ·exact hR2.extra u z (.inl hu)
     ·exact aU hR2 h1
     ·exact hR2.extra u z (.inr hu),fun l hl=>hR2.round l hl,fun D hD=>hD.elim (hR2.defs D) fun h=>(r3 D h).2.2,hR2.virt⟩
   have hfx:Fx ΞB.ro=Fx none:=by show Fx Ξ.ro=Fx none;rw[hro]
   have hBw2:Below B w0 w2:=hB.trans hb2;rw[<-hfx]
   refine hE I fn.ntmps y st2 eb st3 ΞB B S G2 _ w2 _ 0 hd2 (fun h=>nomatch h) hRB hbx fun a3 w3 G3 x3 hx3 hR3 hb3=>?_
   obtain⟨tm,hR3',htm,htu⟩:=hR3;obtain⟨Ds3,s1,s2,s3,s4,_,hR4⟩:=hR3'.shut
   replace s1:a3.defers=Ds3.map mark++(dd::Ds.map mark):=s1
   have hres:results fn tm=results fn a3.tmps:=aOx fun t htt=>htu t (by
    cases hu:(st3.fr t).isUndef with
    |false=>rfl
    |true=>exact absurd (bTg.2 ⟨t,htt,hu⟩) (by simpa using hts))
   have hlv:LeavesInM Fence.wide 0 P fn a3.tmps R (Ds3.map mark++(dd::Ds.map mark)) (eb.mode x3) w3:=by
    refine nX Ex.mode_run Ds3 w3 s2 s3 ⟨Ex.mode_run,.inr ⟨fun h=>by simp[Fence.wide]at h,.func g,q,g,_,rfl,hinv _,fun _ _=>trivial,?_⟩⟩
    have hvals: ∀i,i<(A++args.map (St.get st2.fr)++Z).length->VR (aX B S G3 (lM w3 Ds3).heap.size) G3 (lM w3 Ds3) ((A++args.map (St.get st2.fr)++Z).getD i .dead) ((p++kc'.args.map a2.eval++q).getD i undef):=by
     have hfv4:=hR4.extra _ _ (.inl (.inr ⟨F,f,hf,rfl,rfl⟩));rw[hfn0,hgF]at hfv4;cases hfv4 with
     |fn _ _ _ _ _ hp4 hq4 hvp4 hvq4=>
     intro i hi;simp only[bQn,bQy,bTc,bTd,bQ2,bTl,Array.size_map,bQl]at hi⊢;have e1:p.size=A.length:=hp;have e2:kc'.args.size=args.length:=by simp[la]
     rw[e1,e2];split
     ·split
      ·rename_i h;have:=hvp4 i h;simpa[bQn,bQy]using this
      ·have hi':i-A.length<args.length:=by omega
       have hi2:i-A.length<kc'.args.size:=by omega
       obtain⟨m3,m4⟩:=fH hargs;have hlo:=m4 (i-A.length) (by simpa using hi2) hi'
       have:=hR4.extra _ _ (.inl (.inr ⟨_,_,hlo,rfl,rfl⟩))
       simpa[bQn,bQy,hi',hi2]using this
     ·have:=hvq4 (i-(A.length+args.length)) (by omega);simpa[bQn,bQy]using this
    refine CallsDIn.mono (hdef ΞB B S G3 fn.ntmps _ (lM w3 Ds3) _ x3 (0-1) hx3 hR4 (by simp[hp,hq,la]) hvals) ?_
    rintro ed u' w5 ⟨G5,y5,rfl,hset,hR5,hb5⟩
    simp only[hset];have hR6:Rel P Ξ B S G5 st4 fn.ntmps {tmps:=tm,defers:=Ds.map mark} w5:=
     ⟨hR5.size,hR5.tmps,hR5.frame,⟨Ds,by simp[ht],r2,fun D hD=>⟨(r3 D hD).1,(r3 D hD).2.1,hR5.defs D (.inr hD)⟩⟩,hR5.ents,hR5.freshEn,hR5.freshG,hR5.own,fun u z hu=>hR5.extra u z (hu.imp_left .inl),fun l hl=>hR5.round l hl,fun D hD=>hR5.defs D (.inl hD),hR5.virt⟩
    obtain⟨Ds6,v1,v2,v3,v4,_,hR7⟩:=hR6.shut
    replace v1:Ds.map mark=Ds6.map mark++Ξ.tail:=v1
    have hfin:=k _ _ _ undef trivial ht hR7 ((((hBw2.trans hb3).trans (yR Ds3 w3 s4)).trans hb5).trans (yR Ds6 w5 v4));obtain⟨yy,hyy,hRy⟩:=hfin;rw[v1,ht]
    refine nX (by simp) Ds6 w5 v2 v3 ?_
    exact⟨yy,by rw[<-hres];exact hyy,hRy⟩
   rw[<-s1]at hlv;cases eb with
   |normal=>exact hlv
   |ret=>exact hlv
   |panic v=>exact hlv
   |exit id=>simp[iC,Ex.rcvd]at hdfr;split at hdfr<;>(try split at hdfr)<;>simp at hdfr
  ·split at hly
   case h_2=>cases hly
   rename_i ly' hly';simp only[bQi]at hly;subst hly;simp only[aY.dstOk,bQj]at hdst;rw[exec]at hx
   refine wpIn_seq ?_
   cases h1:exec L n (cB P I x) st with
   |none=>rw[h1]at hx;cases hx
   |some pr=>
    obtain⟨e1,s1⟩:=pr;rw[h1]at hx;have hfx:Fx Ξ.ro=Fx none:=by rw[hro]
    rw[<-hfx]
    refine hE I fn.ntmps x st e1 s1 Ξ B S G a w _ 0 hdst.1 (fun h=>by rw[hnm]at h;cases h) hR h1 fun a1 w1 G1 x1 hx1 hR1 hb1=>?_
    cases e1 with
    |normal=>
     rw[hfx];exact ih (fun m hm=>hall m (by omega)) y ly' s1 G1 a1 w1 hly' hdst.2 hx (hR1.rel rfl) (hB.trans hb1)
    |exit id=>simp only[bQi,bQo]at hx;obtain⟨rfl,rfl⟩:=hx;exact aBs (m:=0) ht hx1 hR1 (hB.trans hb1) k
    |ret=>simp only[bQi,bQo]at hx;obtain⟨rfl,rfl⟩:=hx;exact aBs (m:=0) ht hx1 hR1 (hB.trans hb1) k
    |panic v=>simp only[bQi,bQo]at hx;obtain⟨rfl,rfl⟩:=hx;exact aBs (m:=0) ht hx1 hR1 (hB.trans hb1) k
theorem bJd {L:bG}(hL:pU P L)(hE:wH P L n)(hall: ∀m,m<n->wH P L m/\ lK P (bI L 8 (exec L m))/\ wY P (eQ L (exec L m))):aF0 P L n:=by
 intro f fn lf I keep amb e st0 st' Ξ B S G vals w R hfn hlow hx hro ht hnm hR0 k;obtain⟨c,hbody,hlb,hdst,hnp,hname,hres⟩:=wZ hlow;have hfx:Fx Ξ.ro=Fx none:=by rw[hro]
 refine callsIn_wide.1 (callsIn_of_wp_marks (F:=Fence.wide) (n:=0) hfn hbody trivial ?_)
 simp only[aD1]at hlb
 split at hlb
 ·rename_i lc hrc;simp only[bQi]at hlb;subst hlb
  exfalso
  unfold aTs at hrc
  split at hrc
  case h_2=>cases hrc
  split at hrc
  case h_2=>cases hrc
  split at hrc
  case isFalse=>cases hrc
  obtain⟨l',_,he⟩:=bQw.1 hrc;rw[<-he]at hx;cases n<;>simp[exec]at hx
 ·split at hlb
  ·rename_i lc hlt;simp only[bQi]at hlb;subst hlb;exact bDt hL hro ht hnm k n hall c _ st0 G _ w hlt hdst hx hR0 (Below.refl _ _)
  ·split at hlb
   ·cases hlb
   simp only[bQi]at hlb;rw[<-hlb]at hx hdst;have:=hE I fn.ntmps c st0 e st' Ξ B S G _ w (bodyPostM Fence.wide 0 P fn R) 0 hdst (fun h=>by rw[hnm]at h;cases h) hR0 hx fun a1 w1 G1 x hxv hR1 hb=>aBs ht hxv hR1 hb k
   rw[hfx]at this;exact this
theorem aF4 {L:bG}(hL:pU P L){k:Nat}(ih:aF0 P L n):lK P (bI L k (exec L n)):=by
 intro f args r h;simp only[bI]at h
 split at h
 ·cases h
 rename_i lf hlf
 split at h
 case isFalse=>cases h
 rename_i hlen
 split at h
 ·rename_i ha;obtain⟨e1,c1⟩:=aQ7 hL ih hlf hlen ha h;exact⟨e1,fun S w vals hS hgl hvl hv=>c1 _ _ S w vals hS hgl hvl hv⟩
 ·exact aF1 hL ih hlf hlen h
theorem aXp (hm:P.follows .mixedOrders=true){L:bG}(hL:pU P L): ∀n,wH P L n/\ aF0 P L n:=by
 intro n
 induction n using Nat.strongRecOn with
 |ind n ih=>
  have hE:wH P L n:=by
   match n,ih with
   |0,_=>intro I N c st e st' Ξ B S G a w Q m _ _ _ hx;simp[exec]at hx
   |n+1,ih=>exact aXo hm hL (aF4 hL (ih n (by omega)).2) (ih n (by omega)).2 fun m hm'=>(ih m (by omega)).1
  exact⟨hE,bJd hL hE fun m hm'=>⟨(ih m hm').1,aF4 hL (ih m hm').2,bAj hL (ih m hm').2 (ih m hm').1⟩⟩
theorem aRc (hm:P.follows .mixedOrders=true){L:bG}(hL:pU P L)(n:Nat):lK P (lH L n):=aF4 hL (aXp hm hL n).2
end Go.Abs
namespace Go.Abs
variable [Inhabited mN]
@[reducible] def o (d:Nat)(op:LOp):aL:=⟨some d,op,none⟩
@[reducible] def og (d t:Nat)(b:Bool)(op:LOp):aL:=⟨some d,op,some (t,b)⟩
@[reducible] def on (op:LOp):aL:=⟨none,op,none⟩
@[reducible] def ong (t:Nat)(b:Bool)(op:LOp):aL:=⟨none,op,some (t,b)⟩
@[reducible] def cI (n:Int):Opd:= .c (.int .i64 n)
@[reducible] def mT (d x:Nat):aL:=⟨some d,.mv (.t x),none⟩
@[reducible] def mC (d:Nat)(v:Val):aL:=⟨some d,.mv (.c v),none⟩
@[reducible] def fA (d k x:Nat):aL:=⟨some d,.fa k (.t x),none⟩
@[reducible] def l1 (d x:Nat):aL:=⟨some d,.load false 1 (.t x),none⟩
@[reducible] def lT (d n x:Nat):aL:=⟨some d,.load true n (.t x),none⟩
@[reducible] def bN (d:Nat)(op:BinOp)(x y:Opd):aL:=⟨some d,.bin op .num x y,none⟩
@[reducible] def pA (d c x:Nat):aL:=⟨some d,.pick (.t c) (.t x) (.c (.bool false)),none⟩
@[reducible] def cL (d f:Nat)(args:List Opd):aL:=⟨some d,.call (.f f) args,none⟩
@[reducible] def lN (d x:Nat):aL:=⟨some d,.len .slice (.t x),none⟩
@[reducible] def bX (d n x:Nat):aL:=⟨some d,.box n (.t x),none⟩
@[reducible] def iA (d s x i:Nat):aL:=⟨some d,.ia s (.t x) (.t i),none⟩
@[reducible] def nT (d x:Nat):aL:=⟨some d,.un .not (.t x),none⟩
@[reducible] def sT (n a x:Nat):aL:=⟨none,.store n (.t a) (.t x),none⟩
@[reducible] def g1 (d t:Nat)(b:Bool)(x:Nat):aL:=⟨some d,.load false 1 (.t x),some (t,b)⟩
@[reducible] def gT (d t:Nat)(b:Bool)(n x:Nat):aL:=⟨some d,.load true n (.t x),some (t,b)⟩
@[reducible] def gB (d t:Nat)(b:Bool)(op:BinOp)(x y:Opd):aL:=⟨some d,.bin op .num x y,some (t,b)⟩
def bAl (P:Program)(cfg:Nat->(Operand->Bool)×Bool×Bool):bG:=fun n=>match P.funcs[n]? with
 |some fn=>nR P (cfg n).1 (cfg n).2.1 (cfg n).2.2 fn
 |none=>none
theorem bDu {P:Program}{cfg:Nat->(Operand->Bool)×Bool×Bool}{n:Nat}{fn:Func}(h:P.funcs[n]?=some fn):bAl P cfg n=nR P (cfg n).1 (cfg n).2.1 (cfg n).2.2 fn:=by simp only[bAl,h]
theorem bDv (P:Program)(cfg:Nat->(Operand->Bool)×Bool×Bool):pU P (bAl P cfg):=by
 intro f lf h;simp only[bAl]at h
 split at h
 ·rename_i fn hf;exact⟨fn,(cfg f).1,(cfg f).2.1,(cfg f).2.2,hf,h⟩
 ·cases h
end Go.Abs
namespace Go.Abs
open Go.RowKit Go.WideShapes Go.ChangeShapes Go.ChangeAt
variable [Inhabited mN]
variable {H :Type}{enc:TypeId×Value->H}{P:Program}
theorem aEc (hl:laidOutB P=true){W W':World}(hb:Below W.heap.size W W'){sp:Nat->Bool}: ∀{ts:List TypeId} {vs:List Value} {ds:List (DataW H)} {ps:List MemPlace},(∀t∈ts,P.readableRec t=true/\ t<P.types.size)->
  DataW.TrodAll enc P W 0 (fun _=>true) true ts vs ds ps->(∀x∈ps,x.block<W.heap.size)->(∀x∈ps,sp x.block=true)->DataW.TrodAll enc P W' 0 sp true ts vs ds ps
 |[],[],[],ps,_,h,_,_=>h
 |t::ts,v::vs,d::ds,ps,hr,h,hlt,hsp=>by
  obtain⟨p,q,h1,h2,rfl⟩:=h
  refine⟨p,q,WideElems.Trod_stays hl (hr t (by simp)).1 (hr t (by simp)).2 h1 (fun x hx=>hb.same (hlt x (bSu _ hx))) (fun x hx=>hsp x (bSu _ hx)),
   aEc hl hb (fun t ht=>hr t (bSo _ ht)) h2 (fun x hx=>hlt x (bSe _ hx)) (fun x hx=>hsp x (bSe _ hx)),rfl⟩
 |[],_::_,_,_,_,h,_,_=>h.elim
 |[],[],_::_,_,_,h,_,_=>h.elim
 |_::_,[],_,_,_,h,_,_=>h.elim
 |_::_,_::_,[],_,_,h,_,_=>h.elim
theorem bAm {f:Func}{s:ChangeSpec}{apart fresh handsOn again:Bool}{W W':World}{args:Array Value}{ds gs:List (DataW H)}{before:List MemPlace}{bt:TypeId}
  (hW:DataW.Whole enc P f.params.toList s.vars apart W args.toList ds gs before) (hvars:s.vars=[]) (hres:f.resultTypes= #[bt]) (hbt:P.underlying bt=some .bool)
  (hfn:s.fn H (ds++gs)={results:=[.lit (.bool true)],args:=ds}) (hl:laidOutB P=true) (hr: ∀t∈f.params.toList,P.readableRec t=true/\ t<P.types.size) (hb:Below W.heap.size W W'):
  s.post enc P f apart fresh handsOn again W args (.bool true) W':=by
 have hlt: ∀x∈before,x.block<W.heap.size:=fun x hx=>hW.lt x hx
 obtain⟨p,q,hA,hV,hbq,hz,hn⟩:=hW;rw[hvars]at hV;obtain⟨rfl,rfl⟩:=trodVars_none hV;have hbp:before=p:=by simpa using hbq
 subst hbp;have harg: ∀sp:Nat->Bool,(∀x∈before,sp x.block=true)->DataW.TrodAll enc P W' 0 sp true f.params.toList args.toList ds before:=fun sp hsp=>aEc hl hb hr hA hlt hsp
 have hresult: ∀(b:Nat) (sp:Nat->Bool) (hd:Bool),DataW.TrodAll enc P W' b sp hd f.resultTypes.toList ((Value.bool true).resultList f.resultTypes.size) [.lit (.bool true)] []:=by
  intro b sp hd;rw[hres];exact trodAll_cons_mk (shut_bool hbt _) trodAll_mk0
 have hvar: ∀sp:Nat->Bool,DataW.TrodVars enc P W' sp s.vars (s.fn H (ds++[])).vars []:=by
  intro sp;rw[hvars,hfn];exact rfl
 refine⟨ds,[],before,[],before,[],⟨before,[],hA,by rw[hvars];exact hV,by simp,hz,hn⟩,by rw[hfn];exact hresult _ _ _,by rw[hfn];exact harg _ (fun x hx=>by simpa using hlt x hx),hvar _,
  World.keptBut_mono (fun x hx=>⟨hx,.inr (by simpa using hx)⟩) (hb.frame (· ∈before)),fun _=>?_⟩
 refine⟨ok_one hres rfl (okWide_bool_mk hbt _),_,_,([]++before)++[],⟨[]++before,[],trodAll_append (harg _ (fun _ _=>rfl)) (hresult _ _ _),hvar _,rfl,fun b off hx=>?_,fun ha=>by simpa using hn ha⟩,fun x hx _=>by simpa using hx⟩
 have hin:MemPlace.cell b off∈before:=by simpa using hx
 rw[hb.frozen (hlt _ hin)];exact hz b off hin
theorem aUg {L:bG}(hm:P.follows .mixedOrders=true)(hL:pU P L){f n:Nat}{args:List Val}(h:lH L n f args=some (.bool true)){S:Nat->Nat->Prop}{w:World}{vals:Array Value}(hS: ∀b o,S b o->b<w.heap.size)(hg:tT S w)
  (hn:vals.size=args.length) (hv: ∀i,i<args.length->VR S Gh.none w (args.getD i .dead) (vals.getD i undef)):Calls P f vals w fun e w'=>e= .returned (.bool true)/\ Below w.heap.size w w':=by
 refine Calls.mono ((aRc hm hL n f args _ h).2 S w vals hS hg hn hv) ?_
 rintro e w' ⟨v,rfl,hb,hr⟩
 have hr':VR (aD9 w S w') Gh.none w' (.bool true) v:=hr;cases hr';exact⟨rfl,hb⟩
end Go.Abs
namespace Go.Abs
def aOy (P:Program):Nat->List TypeId->List TypeId
 |0,s=>s
 |d+1,s=>if P.grow s==s then s else aOy P d (P.grow s)
theorem aM1 {P:Program}{s:List TypeId}(h:P.grow s=s): ∀d,P.grown d s=s
 |0=>rfl
 |d+1=>by rw[Program.grown,h];exact aM1 h d
theorem aM2 (P:Program): ∀(d:Nat) (s:List TypeId),P.grown d s=aOy P d s
 |0,s=>rfl
 |d+1,s=>by
  rw[aOy]
  by_cases h:(P.grow s==s)=true
  ·rw[if_pos h];exact aM1 (eq_of_beq h) _
  ·rw[if_neg h,Program.grown];exact aM2 P d _
theorem bG3 (P:Program)(t:TypeId):P.book t=aOy P P.types.size [t]:=aM2 P _ _
def CLe (c c':bD):Prop:= ∀f a r,c f a=some r->c' f a=some r
def ILe (i j:Inl):Prop:=(∀f a s r,i.fn f a s=some r->j.fn f a s=some r)/\ ∀k a s r,i.yld k a s=some r->j.yld k a s=some r
def XLe (x y:aY->St->Option (Ex×St)):Prop:= ∀c s r,x c s=some r->y c s=some r
variable {c':bD}{d g me:Nat}{en:En}{get:Opd->Val}{op:LOp}
theorem aXq {n:Nat}{c:bD}(h:CLe c c'){r:Res}(he:eval n c me d g en get op=some r):eval n c' me d g en get op=some r:=by
 by_cases hc: ∃f args,op= .call f args
 ·obtain⟨f,args,rfl⟩:=hc;simp only[eval]at he⊢
  split at he
  case h_2=>cases he
  split at he
  case h_2=>cases he
  split at he
  case h_2=>cases he
  rename_i hv;rw[h _ _ _ hv];exact he
 ·cases op<;>first|exact absurd ⟨_,_,rfl⟩ hc|exact he
variable {a:List Val}
theorem aOz {i j:Inl}(h:ILe i j){f:Val}{s:St}{r:Val×St}(he:i.call f a s=some r):j.call f a s=some r:=by
 cases f<;>simp only[Inl.call,reduceCtorEq]at he⊢
 ·exact h.1 _ _ _ _ he
 ·exact h.2 _ _ _ _ he
variable {st:St}
theorem aBt {n:Nat}{c:bD}{i j:Inl}(hc:CLe c c')(hi:ILe i j){o:aL}{r:St×Res}(h:step n c i 0 st o=some r):step n c' j 0 st o=some r:=by
 obtain⟨dst,op,g⟩:=o;simp only[step]at h⊢
 split at h
 ·exact h
 ·cases op with
  |icall f args=>
   simp only at h⊢
   split at h
   case h_2=>cases h
   rename_i hv;rw[aOz hi hv];exact h
  |_=>
   simp only at h⊢
   split at h
   case h_2=>cases h
   rename_i hv;rw[aXq hc hv];exact h
 ·cases h
theorem vK {n:Nat}{c c':bD}{i j:Inl}(hc:CLe c c')(hi:ILe i j): ∀(l:List aL) {st r:St},gE n c i 0 l st=some r->gE n c' j 0 l st=some r
 |[],_,_,h=>h
 |o::l,st,r,h=>by
  simp only[gE]at h⊢
  split at h
  case h_2=>cases h
  rename_i hs;rw[aBt hc hi hs];exact vK hc hi l h
theorem pJ {n:Nat}{c c':bD}{i j:Inl}(hc:CLe c c')(hi:ILe i j): ∀(l:List aL) {st:St} {r:St×List Res},iU n c i 0 l st=some r->iU n c' j 0 l st=some r
 |[],_,_,h=>h
 |o::l,st,r,h=>by
  simp only[iU]at h⊢
  split at h
  case h_2=>cases h
  rename_i hs;rw[aBt hc hi hs]
  split at h
  case h_2=>cases h
  rename_i hr;simp only[pJ hc hi l hr];exact h
variable {lf:jC}{r:Val}{y:aY->St->Option (Ex×St)}
theorem xB {x:aY->St->Option (Ex×St)}(h:XLe x y){n:Nat}(hb:iS lf n x a=some r):iS lf n y a=some r:=by
 simp only[iS]at hb⊢
 split at hb
 case h_2=>cases hb
 rename_i hx;rw[h _ _ _ hx];exact hb
theorem aM3 {a b a' b':Option Val}(ha: ∀r,a=some r->a'=some r)(hb: ∀r,b=some r->b'=some r)(h:jS a b=some r):jS a' b'=some r:=by
 unfold jS at h
 split at h<;>first|(cases h;done)|(rw[ha _ rfl,hb _ rfl];exact h)
theorem xC {L:bG}{x:aY->St->Option (Ex×St)}(h:XLe x y){n:Nat}:CLe (bI L n x) (bI L n y):=by
 intro f a r hc;simp only[bI]at hc⊢
 split at hc
 ·cases hc
 split at hc
 case isFalse=>cases hc
 rename_i hl;rw[if_pos hl]
 split at hc
 ·rename_i ha;rw[if_pos ha];exact aM3 (fun _=>xB h) (fun _=>xB h) hc
 ·rename_i ha;rw[if_neg ha];exact xB h hc
variable {f:Nat}
theorem aXr {L:bG}{x:aY->St->Option (Ex×St)}(h:XLe x y){s:St}{r:Val×St}(hc:kQ L x f a s=some r):kQ L y f a s=some r:=by
 simp only[kQ]at hc⊢
 split at hc
 ·cases hc
 split at hc
 case isFalse=>cases hc
 rename_i hl;rw[if_pos hl]
 split at hc
 ·rename_i ha;rw[if_pos ha];obtain⟨v,hv,rfl⟩:=bQw.1 hc;rw[aM3 (fun _=>xB h) (fun _=>xB h) hv];rfl
 ·rename_i ha;rw[if_neg ha]
  split at hc
  case h_2=>cases hc
  rename_i hx;rw[h _ _ _ hx];exact hc
theorem xD {L:bG}{x:aY->St->Option (Ex×St)}(h:XLe x y):ILe (eQ L x) (eQ L y):=by
 refine⟨fun f a s r hc=>?_,fun k a s r hc=>?_⟩
 ·simp only[eQ,zY]at hc⊢
  split at hc
  case h_2=>cases hc
  rename_i hx;rw[aXr h hx];exact hc
 ·simp only[eQ,aDv]at hc⊢
  split at hc
  case h_2=>cases hc
  split at hc
  case isFalse=>cases hc
  rename_i hl;rw[if_pos hl]
  split at hc
  case h_2=>cases hc
  rename_i hx;rw[h _ _ _ hx]
  split at hc
  case h_2=>cases hc
  rename_i hk;simp only[hk]
  split at hc
  case h_2=>cases hc
  rename_i hx2;simp only[h _ _ _ hx2];exact hc
theorem aRd {L:bG}{x:aY->St->Option (Ex×St)}(h:XLe x y):CLe (cM L x) (cM L y):=by
 intro f a r hc;simp only[cM]at hc⊢
 split at hc
 ·cases hc
 split at hc
 case isFalse=>cases hc
 rename_i hl;rw[if_pos hl]
 split at hc
 case h_2=>cases hc
 rename_i hx;simp only[h _ _ _ hx];exact hc
theorem aRe {L:bG}{x:aY->St->Option (Ex×St)}(h:XLe x y){s:St}{r:Val×St}(hc:dZ L x f a s=some r):dZ L y f a s=some r:=by
 simp only[dZ]at hc⊢
 split at hc
 ·cases hc
 split at hc
 case isFalse=>cases hc
 rename_i hl;rw[if_pos hl]
 split at hc
 case h_2=>cases hc
 rename_i hx;simp only[h _ _ _ hx];exact hc
variable {v:Val}
theorem bAn {L:bG}{x:aY->St->Option (Ex×St)}{n:Nat}(h:cM L x f a=some v):bI L n x f a=none:=by
 simp only[cM]at h
 split at h
 ·cases h
 rename_i lf hlf
 split at h
 case isFalse=>cases h
 rename_i hl
 split at h
 case h_2=>cases h
 rename_i hx;simp only[bI,hlf,hl.1,hl.2,if_true,bQm,if_false,iS,hx,Ex.ends]
theorem aV3 {L:bG}{x:aY->St->Option (Ex×St)}{s:St}{r:Val×St}(h:dZ L x f a s=some r):kQ L x f a s=none:=by
 simp only[dZ]at h
 split at h
 ·cases h
 rename_i lf hlf
 split at h
 case isFalse=>cases h
 rename_i hl
 split at h
 case h_2=>cases h
 rename_i hx;simp only[kQ,hlf,hl.1,hl.2,if_true,bQm,if_false,hx,Ex.ends]
theorem bAo {L:bG}{x:aY->St->Option (Ex×St)}{s:St}{r:Val×St}(h:dZ L x f a s=some r):zY L x f a s=none:=by
 simp only[zY,aV3 h]
theorem aAi {L:bG}{x:aY->St->Option (Ex×St)}{n k:Nat}{o:aL}{r:Val×St}(h:dQ n (cM L x) (dZ L x) st o=some r):step n (bI L k x) (eQ L x) 0 st o=none:=by
 obtain⟨dst,op,g⟩:=o;simp only[dQ]at h
 split at h
 case h_2=>cases h
 rename_i hw;simp only[step,hw];cases op with
 |panic y=>simp[eval]
 |call f args=>
  simp only at h⊢
  split at h
  case h_2=>cases h
  rename_i hf
  split at h
  case h_2=>cases h
  rename_i hs;obtain⟨v,hv,rfl⟩:=bQw.1 h;simp only[eval,hf,hs,bAn hv]
 |icall f args=>
  simp only at h⊢
  split at h
  case h_2=>cases h
  rename_i hf
  split at h
  case h_2=>cases h
  rename_i hv;simp only[hf,Inl.call,eQ,zY,aV3 hv]
 |_=>simp at h
variable {p:bD}
theorem sQ {L:bG}{x:aY->St->Option (Ex×St)}(hx:XLe x y)(hp:CLe p (cM L y)){n:Nat}{o:aL}{r:Val×St}(h:dQ n p (dZ L x) st o=some r):dQ n (cM L y) (dZ L y) st o=some r:=by
 obtain⟨dst,op,g⟩:=o;simp only[dQ]at h⊢
 split at h
 case h_2=>cases h
 rename_i hw;cases op with
 |call f args=>
  simp only at h⊢
  split at h
  case h_2=>cases h
  split at h
  case h_2=>cases h
  obtain⟨v,hv,rfl⟩:=bQw.1 h;simp only[hp _ _ _ hv,bRd]
 |icall f args=>
  simp only at h⊢
  split at h
  case h_2=>cases h
  split at h
  case h_2=>cases h
  rename_i hv;rw[aRe hx hv];exact h
 |_=>exact h
theorem aM4 {L:bG}{x y:aY->St->Option (Ex×St)}{c p:bD}{k:Nat}(hx:XLe x y)(hc:CLe c (bI L k y))(hp:CLe p (cM L y)){n:Nat}: ∀(l:List aL) {st:St} {r:Ex×St},
  aDw n c (eQ L x) p (dZ L x) l st=some r->aDw n (bI L k y) (eQ L y) (cM L y) (dZ L y) l st=some r
 |[],_,_,h=>h
 |o::l,st,r,h=>by
  simp only[aDw]at h⊢
  split at h
  ·rename_i hq;simp only[sQ hx hp hq];exact h
  ·split at h
   case h_2=>cases h
   rename_i hs;have hs':=aBt hc (xD hx (L:=L)) hs;have hn:dQ n (cM L y) (dZ L y) st o=none:=by
    cases hq:dQ n (cM L y) (dZ L y) st o with
    |none=>rfl
    |some q=>rw[aAi hq]at hs';cases hs'
   simp only[hn,hs'];exact aM4 hx hc hp l h
variable {args:List Val}
theorem aUh {L:bG}{x:aY->St->Option (Ex×St)}(hx:XLe x y){f:Val}{e:Ex}{st':St}(h:iC L x f args e st=some st'):iC L y f args e st=some st':=by
 unfold iC at h⊢
 split at h
 case h_2=>cases h
 split at h
 case h_2=>cases h
 split at h
 case h_2=>cases h
 split at h
 case isFalse=>cases h
 rename_i hc
 split at h
 case h_2=>cases h
 rename_i ho
 split at h
 case h_2=>cases h
 rename_i hb;simp only[if_pos hc,vK (xC hx (L:=L) (n:=8)) (xD hx (L:=L)) _ ho,hx _ _ _ hb];exact h
theorem aC4 {L:bG}{x y:aY->St->Option (Ex×St)}{c p:bD}{k:Nat}(hx:XLe x y)(hc:CLe c (bI L k y))(hp:CLe p (cM L y)){n:Nat}: ∀(l:List aL) {i j:Nat} {st:St},
  pP n c (eQ L x) p (dZ L x) l i st=some j->pP n (bI L k y) (eQ L y) (cM L y) (dZ L y) l i st=some j
 |[],_,_,_,h=>h
 |o::l,i,j,st,h=>by
  simp only[pP]at h⊢
  split at h
  ·rename_i hq;simp only[sQ hx hp hq];exact h
  ·split at h
   case h_2=>cases h
   rename_i hs;have hs':=aBt hc (xD hx (L:=L)) hs;have hn:dQ n (cM L y) (dZ L y) st o=none:=by
    cases hq:dQ n (cM L y) (dZ L y) st o with
    |none=>rfl
    |some q=>rw[aAi hq]at hs';cases hs'
   simp only[hn,hs'];exact aC4 hx hc hp l h
theorem uC {L:bG}{x:aY->St->Option (Ex×St)}{n k:Nat}: ∀(l:List aL) {i:Nat} {st:St} {r:St×List Res},
  iU n (bI L k x) (eQ L x) 0 l st=some r->pP n (bI L k x) (eQ L x) (cM L x) (dZ L x) l i st=none
 |[],_,_,_,_=>rfl
 |o::l,i,st,r,h=>by
  simp only[iU]at h
  split at h
  case h_2=>cases h
  rename_i hs
  split at h
  case h_2=>cases h
  rename_i hr;have hn:dQ n (cM L x) (dZ L x) st o=none:=by
   cases hq:dQ n (cM L x) (dZ L x) st o with
   |none=>rfl
   |some q=>rw[aAi hq]at hs;cases hs
  simp only[pP,hn,hs];exact uC l hr
variable {an:List (List Nat)}{j:Nat}{l:List aL}
theorem aO0 {L:bG}{x:aY->St->Option (Ex×St)}{c:bD}{k:Nat}(hx:XLe x y)(hc:CLe c (bI L k y))(hp:CLe p (cM L y)){n:Nat}{ps:List (Nat×Nat)}{r:Ex×St}
  (h:vG n c (eQ L x) p (dZ L x) l an ps j st=some r):vG n (bI L k y) (eQ L y) (cM L y) (dZ L y) l an ps j st=some r:=by
 simp only[vG]at h⊢
 split at h
 case h_2=>cases h
 rename_i hr;rw[pJ hc (xD hx (L:=L)) _ hr]
 simp only
 split at h
 case isFalse=>cases h
 rename_i hk;rw[if_pos hk]
 split at h
 case h_2=>cases h
 rename_i hq;simp only[sQ hx hp hq];exact h
variable {ps:List Nat}
theorem aUi {L:bG}{x:aY->St->Option (Ex×St)}(h:XLe x y){g:Val}{a b:aY}{r:Ex×St}(hr:nQ L x g ps a b st=some r):nQ L y g ps a b st=some r:=by
 unfold nQ at hr⊢
 split at hr
 case h_2=>cases hr
 simp only at hr⊢
 split at hr
 ·rename_i hx;have:=(xD h (L:=L)).1 _ _ _ _ hx;simp only[eQ]at this;rw[this];exact hr
 ·split at hr
  case h_2=>cases hr
  rename_i hx;have:=aRe h (L:=L) hx;simp only[bAo this,this];exact hr
def sM (L:bG)(x:aY->St->Option (Ex×St))(ca p:bD)(c:aY)(st:St):Option (Ex×St):=
 let i:=eQ L x
 match c with
 | .skip=>some (.normal,st)
 | .ops l=>(gE 8 ca i 0 l st).map fun st=>(.normal,st)
 | .draw l ps=>match iU 8 ca i 0 l st with
  |some (st',rs)=>if dP rs ps then some (.normal,st')else none
  |none=>none
 | .seq a b=>match x a st with
  |some (.normal,st')=>x b st'
  |r=>r
 | .cond z a b=>match St.get st.fr z with
  | .bool true=>x a st
  | .bool false=>x b st
  |_=>none
 | .block id b=>match x b st with
  |some (.exit id',st')=>if id'=id then some (.normal,st')else some (.exit id',st')
  |r=>r
 | .loop b=>match x b st with
  |some (.normal,st')=>x (.loop b) st'
  |r=>r
 | .exit id=>some (.exit id,st)
 | .ret=>some (.ret,st)
 | .rangeF g ps a b=>nQ L x (St.get st.fr g) ps a b st
 | .opsP l=>aDw 8 ca i p (dZ L x) l st
 | .dfr ts l f args b=>match gE 8 ca i 0 l st with
  |some st2=>match x b st2 with
   |some (e,st3)=>if ts.any (fun t=>(st3.fr t).isUndef)then none else(iC L x (St.get st2.fr f) (args.map (St.get st2.fr)) e st3).map fun st4=>(.ret,st4)
   |none=>none
  |none=>none
 | .rcv _ _ _=>none
 | .drawP l an ps=>match pP 8 ca i p (dZ L x) l 0 st with
  |some j=>vG 8 ca i p (dZ L x) l an ps j st
  |none=>match iU 8 ca i 0 l st with
   |some (st',rs)=>if dP rs ps then some (.normal,st')else none
   |none=>none
 | .drawL l an ps A=>wU 8 ca i p (dZ L x) (iX A (iG st (l.getD A default)) l) an ps A (iG st (l.getD A default)) (vH (iG st (l.getD A default)) (aMp (l.getD A default).op) st)
theorem aF5 (L:bG)(n:Nat):exec L (n+1)=sM L (exec L n) (bI L 8 (exec L n)) (cM L (exec L n)):=by
 funext c st
 cases c<;>rfl
theorem aV4 {L:bG}{x:aY->St->Option (Ex×St)}{ca:bD}(ih:XLe x y)(hc:CLe ca (bI L 8 y))(hp:CLe p (cM L y)):XLe (sM L x ca p) (sM L y (bI L 8 y) (cM L y)):=by
 intro c s r h;have hi:=xD ih (L:=L);cases c with
 |skip=>exact h
 |ops l=>
  simp only[sM]at h⊢;obtain⟨st,hs,rfl⟩:=bQw.1 h;rw[vK hc hi l hs];rfl
 |draw l ps=>
  simp only[sM]at h⊢
  split at h
  case h_2=>cases h
  rename_i hs;rw[pJ hc hi l hs];exact h
 |seq a b=>
  simp only[sM]at h⊢;cases hx:x a s with
  |none=>rw[hx]at h;cases h
  |some p=>
   obtain⟨e,st⟩:=p;rw[hx]at h;rw[ih _ _ _ hx];cases e with
   |normal=>exact ih _ _ _ h
   |exit i=>exact h
   |ret=>exact h
   |panic v=>exact h
 |cond z a b=>
  simp only[sM]at h⊢
  split at h
  ·exact ih _ _ _ h
  ·exact ih _ _ _ h
  ·cases h
 |block id b=>
  simp only[sM]at h⊢;cases hx:x b s with
  |none=>rw[hx]at h;cases h
  |some p=>
   obtain⟨e,st⟩:=p;rw[hx]at h;rw[ih _ _ _ hx];exact h
 |loop b=>
  simp only[sM]at h⊢;cases hx:x b s with
  |none=>rw[hx]at h;cases h
  |some p=>
   obtain⟨e,st⟩:=p;rw[hx]at h;rw[ih _ _ _ hx];cases e with
   |normal=>exact ih _ _ _ h
   |exit i=>exact h
   |ret=>exact h
   |panic v=>exact h
 |exit i=>exact h
 |ret=>exact h
 |rangeF g ps a b=>
  simp only[sM]at h⊢;exact aUi ih h
 |opsP l=>
  simp only[sM]at h⊢;exact aM4 ih hc hp l h
 |rcv d l b=>simp[sM]at h
 |drawP l an ps=>
  simp only[sM]at h⊢
  split at h
  ·rename_i hf;simp only[aC4 ih hc hp l hf];exact aO0 ih hc hp h
  ·split at h
   case h_2=>cases h
   rename_i hr;have hr':=pJ hc hi l hr;simp only[uC (x:=y) l hr',hr'];exact h
 |drawL l an ps A=>
  simp only[sM]at h⊢;unfold wU at h⊢
  split at h
  ·rename_i hf;simp only[aC4 ih hc hp _ hf]
   split at h
   case h_2=>cases h
   rename_i hr;rw[pJ hc hi _ hr]
   simp only
   split at h
   case isFalse=>cases h
   rename_i hck;rw[if_pos hck]
   split at h
   case h_2=>cases h
   rename_i hq;simp only[sQ ih hp hq];exact h
  ·split at h
   case h_2=>cases h
   rename_i hr;have hr':=pJ hc hi _ hr;simp only[uC (x:=y) _ hr',hr'];exact h
 |dfr ts l f args b=>
  simp only[sM]at h⊢
  split at h
  case h_2=>cases h
  rename_i hr;simp only[vK hc hi l hr]
  split at h
  case h_2=>cases h
  rename_i hb;simp only[ih _ _ _ hb]
  split at h
  ·cases h
  rename_i hts;rw[if_neg hts];obtain⟨q,hq,rfl⟩:=bQw.1 h;rw[aUh ih hq];rfl
theorem aXs (L:bG): ∀n,XLe (exec L n) (exec L (n+1)):=by
 intro n
 induction n with
 |zero=>intro c s r h;simp[exec]at h
 |succ n ih=>rw[aF5,aF5];exact aV4 ih (xC ih) (aRd ih)
variable {m:Nat}
theorem bDw (L:bG){n:Nat}(h:n<=m):XLe (exec L n) (exec L m):=by
 induction h with
 |refl=>intro c s r h;exact h
 |step _ ih=>intro c s r h;exact aXs L _ _ _ _ (ih _ _ _ h)
theorem aAj {L:bG}{n:Nat}(h:n<=m)(hr:lH L n f a=some r):lH L m f a=some r:=xC (bDw L h) _ _ _ hr
def PC (L:bG)(f:Nat)(args:List Val)(r:Val):Prop:= ∃n0,∀n,n0<=n->lH L n f args=some r
def Ev (L:bG)(c:aY)(st:St)(e:Ex)(st':St):Prop:= ∃n0,∀n,n0<=n->exec L n c st=some (e,st')
def WIn (L:bG)(f:Val)(args:List Val)(en:En)(cnt:Nat->Nat->Nat)(Q:Val->En->(Nat->Nat->Nat)->Prop):Prop:=
 ∃v en' cnt',(∃n0,∀n,n0<=n-> ∀fr,(eQ L (exec L n)).call f args ⟨fr,en,cnt⟩=some (v,⟨fr,en',cnt'⟩))/\ Q v en' cnt'
variable {Q:Val->En->(Nat->Nat->Nat)->Prop}{cnt:Nat->Nat->Nat}
theorem WIn.mono {L:bG}{f:Val}{R:Val->En->(Nat->Nat->Nat)->Prop}
  (h:WIn L f args en cnt Q) (k: ∀v en' cnt',Q v en' cnt'->R v en' cnt'):WIn L f args en cnt R:=by
 obtain⟨v,en',cnt',h1,h2⟩:=h;exact⟨v,en',cnt',h1,k _ _ _ h2⟩
theorem PC.det {L:bG}{s:Val}(h:PC L f args r)(k:PC L f args s):s=r:=by
 obtain⟨n,h⟩:=h;obtain⟨m,k⟩:=k;have h1:=h (max n m) (by omega);have h2:=k (max n m) (by omega)
 rw[h1]at h2;cases h2;rfl
def bG4 :bD:=fun _ _=>none
def snapD :Nat->En->Val->Option (Val×List Key)
 |0,_,_=>none
 |n+1,en,v=>
  match v with
  | .ptr k off=>match en k with
   |some (.box cs _)=>match cP (snapD n en) cs with
    |some rs=>some (.fp (rs.map (·.1)) off,k::rs.flatMap (·.2))
    |none=>none
   |_=>none
  | .ep k i off=>match en k with
   |some (.blk _ xs _)=>if k.deep then none else match xs[i]? with
    |some x=>some (.fp x.cells off,[k])
    |none=>none
   |_=>none
  | .bl k off len=>match en k with
   |some (.blk _ xs _)=>if k.deep then none else if off+len<=xs.length then some (.fz ((xs.drop off).take len),[k])else none
   |_=>none
  | .mp k=>match en k with
   |some (.map ks vs _)=>some (.fm ks vs,[k])
   |_=>none
  | .yld _| .it _=>none
  | .fn f a b=>match cP (snapD n en) a with
   |some x=>match cP (snapD n en) b with
    |some y=>some (.fn f (x.map (·.1)) (y.map (·.1)),x.flatMap (·.2)++y.flatMap (·.2))
    |none=>none
   |none=>none
  | .ifc t v=>match snapD n en v with
   |some r=>some (.ifc t r.1,r.2)
   |none=>none
  | .agg cs=>match cP (snapD n en) cs with
   |some rs=>some (.agg (rs.map (·.1)),rs.flatMap (·.2))
   |none=>none
  | .tup vs=>match cP (snapD n en) vs with
   |some rs=>some (.tup (rs.map (·.1)),rs.flatMap (·.2))
   |none=>none
  |v=>some (v,[])
variable {α:Type}
theorem aAk {β:Type}{f g:α->Option β}(h: ∀x y,f x=some y->g x=some y): ∀{l:List α} {r:List β},cP f l=some r->cP g l=some r:=by
 intro l
 induction l with
 |nil=>intro r h';exact h'
 |cons x xs ih=>
  intro r h';simp only[cP]at h'⊢
  split at h'
  ·rename_i y hy
   split at h'
   ·rename_i ys hys;rw[h x y hy,ih hys];exact h'
   ·cases h'
  ·cases h'
theorem uD (en:En): ∀(n:Nat) (v:Val) (r:Val×List Key),snapD n en v=some r-> ∀m,n<=m->snap m en v=some r:=by
 intro n
 induction n with
 |zero=>intro v r h;simp[snapD]at h
 |succ n ih=>
  intro v r h m hm;obtain⟨m,rfl⟩: ∃k,m=k+1:=⟨m-1,by omega⟩
  have hl: ∀{l:List Val} {rs:List (Val×List Key)},cP (snapD n en) l=some rs->cP (snap m en) l=some rs:=
   fun h=>aAk (fun x y hx=>ih x y hx m (by omega)) h
  cases v with
  |ptr k off=>
   simp only[snapD]at h;simp only[snap]
   split at h
   ·rename_i hk
    split at h
    ·rename_i hrs;simp only[bQi]at h;subst h;simp only[hk,hl hrs,Option.map]
    ·cases h
   ·cases h
  |bl k off len=>
   simp only[snapD]at h;simp only[snap]
   split at h
   case h_2=>cases h
   rename_i hk
   split at h
   ·cases h
   rename_i hd
   split at h
   case isFalse=>cases h
   rename_i hl;simp only[hk,if_neg hd,if_pos hl];exact h
  |fn f a b=>
   simp only[snapD]at h;simp only[snap]
   split at h
   ·rename_i hx
    split at h
    ·rename_i hy;simp only[bQi]at h;subst h;simp only[hl hx,hl hy,Option.map]
    ·cases h
   ·cases h
  |ifc t v=>
   simp only[snapD]at h;simp only[snap]
   split at h
   ·rename_i hx;simp only[bQi]at h;subst h;simp only[ih _ _ hx m (by omega),Option.map]
   ·cases h
  |agg cs=>
   simp only[snapD]at h;simp only[snap]
   split at h
   ·rename_i hx;simp only[bQi]at h;subst h;simp only[hl hx,Option.map]
   ·cases h
  |tup vs=>
   simp only[snapD]at h;simp only[snap]
   split at h
   ·rename_i hx;simp only[bQi]at h;subst h;simp only[hl hx,Option.map]
   ·cases h
  |_=>exact h
def cZ (d g:Nat)(en:En)(get:Opd->Val):LOp->Option Res
 | .bslice len size z parts=>
  if len*size<=16777216 then
   match cP (fun p=>match snapD 8 en (get p.2)with|some r=>some ((p.1,r.1.wk1),r.2)|none=>none) parts with
   |some ps=>match gL (List.replicate len (mL size z false)) size (ps.map (·.1))with
    |some xs=>some {v:= .cl xs,ws:=(ps.flatMap (·.2)).map .frz,rs:=(ps.flatMap (·.2)).map .val}
    |none=>none
   |none=>none
  else none
 | .store m a x=>
  let v:=get x
  if v.one=true/\ v.cells.length=m then
   match get a with
   | .ptr k off=>match en k with
    |some (.box cs false)=>if off+m<=cs.length then some {v:= .tup [],ws:=[.cells k off v.cells],rs:=[.flag k]}else none
    |_=>none
   | .ep k i off=>match en k with
    |some (.blk _ xs false)=>match xs[i]? with
     |some y=>if off+m<=y.cells.length then
       if k.deep then none else
       match snapD 8 en v with
       |some (v',ks)=>if v'.one=true/\ v'.cells.length=m/\ ks.all (fun k'=>decide (k'≠k))=true then some {v:= .tup [],ws:=ks.map .frz++[.elem k i off v'.wk1.cells],rs:= .val k:: .flag k::ks.map .val}else none
       |none=>none
      else none
     |none=>none
    |_=>none
   |_=>none
  else none
 | .call _ _| .icall _ _| .appendD .. | .bsliceK .. =>none
 |op=>eval 8 bG4 0 d g en get op
theorem bAp {r:Res}(h:cZ d g en get op=some r)(call:bD)(n:Nat)(hn:8<=n):
  eval n call 0 d g en get op=some r:=by
 cases op with
 |bslice len size z parts=>
  simp only[cZ]at h;simp only[eval]
  split at h
  ·rename_i hc;rw[if_pos hc]
   split at h
   ·rename_i ps hps;have:cP (fun p=>(snap n en (get p.2)).map fun r=>((p.1,r.1.wk1),r.2)) parts=some ps:=by
     refine aAk (fun x y hx=>?_) hps
     split at hx
     ·rename_i r hr;simp only[bQi]at hx;subst hx;rw[uD en 8 _ _ hr n hn];rfl
     ·cases hx
    rw[this];exact h
   ·cases h
  ·cases h
 |store m a x=>
  simp only[cZ]at h;simp only[eval]
  split at h
  ·rename_i hc;rw[if_pos hc]
   split at h
   ·rename_i hg;simp only[hg];exact h
   ·rename_i hg;simp only[hg]
    split at h
    ·rename_i he;simp only[he]
     split at h
     ·rename_i hy;simp only[hy]
      split at h
      ·rename_i hl;rw[if_pos hl]
       split at h
       ·cases h
       rename_i hd;rw[if_neg hd]
       split at h
       ·rename_i hs;simp only[uD en 8 _ _ hs n hn];exact h
       ·cases h
      ·cases h
     ·cases h
    ·cases h
   ·cases h
  ·cases h
 |call f a=>simp[cZ]at h
 |icall f a=>simp[cZ]at h
 |appendD=>simp[cZ]at h
 |bsliceK=>simp[cZ]at h
 |_=>exact h
def WOp (L:bG)(d g:Nat)(en:En)(get:Opd->Val)(op:LOp)(K:Res->Prop):Prop:=
 match op with
 | .call f args=>match get f with
  | .fn f a b=>match cP (snapD 8 en) (a++args.map get++b)with
   |some rs=> ∃r,PC L f (rs.map (·.1.wk1)) r/\ K (gV 0 d g r (rs.flatMap (·.2)))
   |none=>False
  |_=>False
 |op=>match cZ d g en get op with
  |some r=>K r
  |none=>False
theorem bG5 {L:bG}{K:Res->Prop}(h:WOp L d g en get op K):
  op.me 0=0/\ ∃r,(∃n0,∀n,n0<=n->eval 8 (lH L n) 0 d g en get op=some r)/\ K r:=by
 have oth:(match cZ d g en get op with|some r=>K r|none=>False)->op.me 0=0/\ ∃r,(∃n0,∀n,n0<=n->eval 8 (lH L n) 0 d g en get op=some r)/\ K r:=by
  intro h
  refine⟨by cases op<;>first|rfl|simp[cZ]at h,?_⟩
  split at h
  ·rename_i r hr;exact⟨r,⟨0,fun n _=>bAp hr _ 8 (bQk _)⟩,h⟩
  ·exact h.elim
 cases op with
 |call f args=>
  simp only[WOp]at h
  split at h
  ·rename_i f' a b hf
   split at h
   ·rename_i rs hrs;obtain⟨r,⟨n1,h1⟩,hk⟩:=h
    refine⟨rfl,_,⟨n1,fun n hn=>?_⟩,hk⟩
    have:cP (fun x=>snap 8 en x) (a++args.map get++b)=some rs:=aAk (fun x y hx=>uD en 8 x y hx 8 (bQk _)) hrs
    simp only[eval,hf,this,h1 n (by omega)]
   ·exact h.elim
  ·exact h.elim
 |_=>exact oth h
def oJ (L:bG)(st:St)(o:aL)(K:St->Res->Prop):Prop:=
 match wanted st.fr o.guard with
 |some true=>match o.op with
  | .icall f args=>WIn L (St.get st.fr f) (args.map (St.get st.fr)) st.en st.cnt fun v en' cnt'=>K ⟨gZ st.fr o.dst v,en',cnt'⟩ {v,mem:=some (en',cnt'),unch:=fun k=>aQi (st.en k) (en' k)}
  |op=>WOp L (o.dst.getD 0) (st.cnt 0 (o.dst.getD 0)) st.en (St.get st.fr) op fun r=>(r.bump&&o.dst.isNone)=false/\
    K ⟨gZ st.fr o.dst r.v,W.applyAll st.en r.ws,if r.bump then aC st.cnt 0 (o.dst.getD 0) (st.cnt 0 (o.dst.getD 0)+1)else st.cnt⟩ r
 |some false=>K ⟨gZ st.fr o.dst (.tup []),st.en,st.cnt⟩ {v:= .tup []}
 |none=>False
def gD (L:bG):List aL->St->(St->Prop)->Prop
 |[],st,Q=>Q st
 |o::l,st,Q=>oJ L st o fun st' _=>gD L l st' Q
def rC (L:bG):List aL->St->(St->List Res->Prop)->Prop
 |[],st,Q=>Q st []
 |o::l,st,Q=>oJ L st o fun st' r=>rC L l st' fun st'' rs=>Q st'' (r::rs)
def PX (L:bG)(f:Nat)(args:List Val)(v:Val):Prop:= ∃n0,∀n,n0<=n->bGl L n f args=some v
def vC (L:bG)(f:Nat)(args:List Val)(en:En)(cnt:Nat->Nat->Nat)(Q:Val->En->(Nat->Nat->Nat)->Prop):Prop:=
 ∃v en' cnt',(∃n0,∀n,n0<=n-> ∀fr,dZ L (exec L n) f args ⟨fr,en,cnt⟩=some (v,⟨fr,en',cnt'⟩))/\ Q v en' cnt'
theorem vC.mono {L:bG}{R:Val->En->(Nat->Nat->Nat)->Prop}
  (h:vC L f args en cnt Q) (k: ∀v en' cnt',Q v en' cnt'->R v en' cnt'):vC L f args en cnt R:=by
 obtain⟨v,en',cnt',h1,h2⟩:=h;exact⟨v,en',cnt',h1,k _ _ _ h2⟩
def kX (L:bG)(o:aL)(st:St)(K:Val->St->Prop):Prop:=
 match wanted st.fr o.guard with
 |some true=>match o.op with
  | .panic x=>match St.get st.fr x with
   | .ifc t u=>(Val.ifc t u).flat=true/\ K (.ifc t u) st
   |_=>False
  | .call f args=>match f.noM,St.get st.fr f with
   |true,.fn f a b=>match cP (snapD 8 st.en) (a++args.map (St.get st.fr)++b)with
    |some rs=> ∃v,PX L f (rs.map (·.1.wk1)) v/\ K v st
    |none=>False
   |_,_=>False
  | .icall f args=>match St.get st.fr f with
   | .fn f a b=>vC L f (a++args.map (St.get st.fr)++b) st.en st.cnt fun v en' cnt'=>K v ⟨st.fr,en',cnt'⟩
   |_=>False
  |_=>False
 |_=>False
theorem uE {L:bG}{o:aL}{K K':Val->St->Prop}(h:kX L o st K)(k: ∀v s,K v s->K' v s):kX L o st K':=by
 unfold kX at h⊢
 split at h
 case h_2=>cases h
 split at h
 ·split at h
  case h_2=>cases h
  exact⟨h.1,k _ _ h.2⟩
 ·split at h
  case h_2=>cases h
  split at h
  case h_2=>cases h
  obtain⟨v,h1,h2⟩:=h;exact⟨v,h1,k _ _ h2⟩
 ·split at h
  case h_2=>cases h
  exact h.mono fun _ _ _=>k _ _
 ·cases h
theorem aAl {L:bG}{o:aL}{K:Val->St->Prop}(h:kX L o st K):
  ∃v st',(∃n0,∀n,n0<=n->dQ 8 (cM L (exec L n)) (dZ L (exec L n)) st o=some (v,st'))/\ K v st':=by
 unfold kX at h
 split at h
 case h_2=>cases h
 rename_i hw
 split at h
 ·rename_i x hop
  split at h
  case h_2=>cases h
  rename_i t u hu;exact⟨_,_,⟨0,fun n _=>by simp only[dQ,hw,hop,hu,h.1,if_true]⟩,h.2⟩
 ·rename_i f args hop
  split at h
  case h_2=>cases h
  rename_i f' a b hf1 hf2
  split at h
  case h_2=>cases h
  rename_i rs hrs;obtain⟨v,⟨n0,h1⟩,h2⟩:=h
  refine⟨v,st,⟨n0,fun n hn=>?_⟩,h2⟩
  have:cP (fun x=>snap 8 st.en x) (a++args.map (St.get st.fr)++b)=some rs:=aAk (fun x y hx=>uD st.en 8 x y hx 8 (bQk _)) hrs
  have h1:=h1 n hn;unfold bGl at h1;simp only[dQ,hw,hop,hf1,hf2,this,h1,bRd]
 ·rename_i f args hop
  split at h
  case h_2=>cases h
  rename_i f' a b hf;obtain⟨v,en',cnt',⟨n0,h1⟩,h2⟩:=h;exact⟨v,_,⟨n0,fun n hn=>by simp only[dQ,hw,hop,hf,h1 n hn]⟩,h2⟩
 ·cases h
def jX (cnt:Nat->Nat->Nat):Key:=⟨1,0,cnt 1 0⟩
def Wp (L:bG):aY->St->(Ex->St->Prop)->Prop
 | .skip,st,Q=>Q .normal st
 | .ops l,st,Q=>gD L l st (Q .normal)
 | .draw l pairs,st,Q=>if pairs=[]then gD L l st (Q .normal)else rC L l st fun st' rs=>dP rs pairs=true/\ Q .normal st'
 | .seq a b,st,Q=>Wp L a st fun e st'=>match e with
  | .normal=>Wp L b st' Q
  | .exit i=>Q (.exit i) st'
  | .ret=>Q .ret st'
  | .panic v=>Q (.panic v) st'
 | .cond x a b,st,Q=>match St.get st.fr x with
  | .bool t=>if t=true then Wp L a st Q else Wp L b st Q
  |_=>False
 | .block id b,st,Q=>Wp L b st fun e st'=>match e with
  | .exit id'=>if id'=id then Q .normal st' else Q (.exit id') st'
  | .normal=>Q .normal st'
  | .ret=>Q .ret st'
  | .panic v=>Q (.panic v) st'
 | .loop b,st,Q=> ∃e st',Ev L (.loop b) st e st'/\ Q e st'
 | .exit id,st,Q=>Q (.exit id) st
 | .ret,st,Q=>Q .ret st
 | .rangeF g ps a b,st,Q=>
  match St.get st.fr g with
  | .fn f x y=>(WIn L (.fn f x y) [.yld (jX st.cnt)] (st.en.set (jX st.cnt) (some (.loop st.fr ps a b .ready))) (aC st.cnt 1 0 (st.cnt 1 0+1)) fun _ en' cnt'=>
   match en' (jX st.cnt)with
   |some (.loop _ _ _ _ .ready)=>Q .normal ⟨st.fr,en'.set (jX st.cnt) none,cnt'⟩
   |some (.loop _ _ _ _ (.done e))=>Q e ⟨st.fr,en'.set (jX st.cnt) none,cnt'⟩
   |_=>False) \/vC L f (x++[.yld (jX st.cnt)]++y) (st.en.set (jX st.cnt) (some (.loop st.fr ps a b .ready))) (aC st.cnt 1 0 (st.cnt 1 0+1)) fun v en' cnt'=>Q (.panic v) ⟨st.fr,en'.set (jX st.cnt) none,cnt'⟩
  |_=>False
 | .opsP l,st,Q=>gD L l st (Q .normal) \/ ∃k o,l[k]?=some o/\ gD L (l.take k) st fun st1=>kX L o st1 fun v st2=>Q (.panic v) st2
 | .drawP l an pairs,st,Q=>(rC L l st fun st' rs=>dP rs pairs=true/\ Q .normal st') \/
   ∃j o,l[j]?=some o/\ (gD L (l.take j) st fun s=>kX L o s fun _ _=>True)/\ rC L (dB an j l) st fun st1 rs=>(dP rs pairs&&jV an j l rs)=true/\
    kX L o st1 fun v st2=>Q (.panic v) ⟨fun t=>if mZ l t then .tup []else st2.fr t,st2.en,st2.cnt⟩
 | .drawL l an pairs A,st,Q=>(rC L (iX A (iG st (l.getD A default)) l) (vH (iG st (l.getD A default)) (aMp (l.getD A default).op) st) fun st' rs=>(dP rs pairs&&oR an A (iG st (l.getD A default)) rs)=true/\ Q .normal st') \/
   ∃j o,(iX A (iG st (l.getD A default)) l)[j]?=some o/\ (gD L ((iX A (iG st (l.getD A default)) l).take j) (vH (iG st (l.getD A default)) (aMp (l.getD A default).op) st) fun s=>kX L o s fun _ _=>True)/\
    rC L (dB an j (iX A (iG st (l.getD A default)) l)) (vH (iG st (l.getD A default)) (aMp (l.getD A default).op) st) fun st1 rs=>((dP rs pairs&&jV an j (iX A (iG st (l.getD A default)) l) rs)&&oR an A (iG st (l.getD A default)) rs)=true/\
    kX L o st1 fun v st2=>Q (.panic v) ⟨fun t=>if mZ (iX A (iG st (l.getD A default)) l) t then .tup []else st2.fr t,st2.en,st2.cnt⟩
 | .dfr ts l f args b,st,Q=>gD L l st fun st2=>Wp L b st2 fun e st3=>ts.any (fun t=>(st3.fr t).isUndef)=false/\
   ∃st4,(∃n0,∀n,n0<=n->iC L (exec L n) (St.get st2.fr f) (args.map (St.get st2.fr)) e st3=some st4)/\ Q .ret st4
 | .rcv _ _ _,_,_=>False
variable {call:bD}{io:Inl}
theorem bDx {n:Nat}{o:aL}{r:Res}(hme:o.op.me 0=0)(hne: ∀f a,o.op≠ .icall f a)(hw:wanted st.fr o.guard=some true)
  (he:eval n call 0 (o.dst.getD 0) (st.cnt 0 (o.dst.getD 0)) st.en (St.get st.fr) o.op=some r) (hb:(r.bump&&o.dst.isNone)=false):
  step n call io 0 st o=some (⟨gZ st.fr o.dst r.v,W.applyAll st.en r.ws,if r.bump then aC st.cnt 0 (o.dst.getD 0) (st.cnt 0 (o.dst.getD 0)+1)else st.cnt⟩,r):=by
 obtain⟨dst,op,guard⟩:=o
 simp only at hw he hb hne hme
 cases op with
 |icall f a=>exact absurd rfl (hne _ _)
 |_=>simp only[step,hw,hme,he,hb,bQm,if_false]
theorem aV5 {L:bG}{o:aL}{K:St->Res->Prop}(h:oJ L st o K):
  ∃st' r,(∃n0,∀n,n0<=n->step 8 (lH L n) (eQ L (exec L n)) 0 st o=some (st',r))/\ K st' r:=by
 unfold oJ at h
 split at h
 ·rename_i hw
  split at h
  ·rename_i f args hop;obtain⟨v,en',cnt',⟨n0,hn⟩,hk⟩:=h
   refine⟨_,_,⟨n0,fun n hn'=>?_⟩,hk⟩
   simp only[step,hw,hop,hn n hn']
  ·rename_i op hne;obtain⟨hme,r,⟨n0,hn⟩,hb,hk⟩:=bG5 h;exact⟨_,r,⟨n0,fun n hn'=>bDx hme (fun f a=>hne f a) hw (hn n hn') hb⟩,hk⟩
 ·rename_i hw;exact⟨_,_,⟨0,fun n _=>by simp only[step,hw]⟩,h⟩
 ·exact h.elim
theorem aAm {L:bG}(l:List aL): ∀{st:St} {Q:St->Prop},gD L l st Q->
  ∃st',(∃n0,∀n,n0<=n->gE 8 (lH L n) (eQ L (exec L n)) 0 l st=some st')/\ Q st':=by
 induction l with
 |nil=>intro st Q h;exact⟨st,⟨0,fun n _=>rfl⟩,h⟩
 |cons o l ih=>
  intro st Q h;obtain⟨st1,r,⟨n1,h1⟩,hk⟩:=aV5 h;obtain⟨st2,⟨n2,h2⟩,hq⟩:=ih hk;exact⟨st2,⟨max n1 n2,fun n hn=>by simp only[gE,h1 n (by omega),h2 n (by omega)]⟩,hq⟩
theorem aJq {L:bG}(l:List aL): ∀{st:St} {Q:St->List Res->Prop},rC L l st Q->
  ∃st' rs,(∃n0,∀n,n0<=n->iU 8 (lH L n) (eQ L (exec L n)) 0 l st=some (st',rs))/\ Q st' rs:=by
 induction l with
 |nil=>intro st Q h;exact⟨st,[],⟨0,fun n _=>rfl⟩,h⟩
 |cons o l ih=>
  intro st Q h;obtain⟨st1,r,⟨n1,h1⟩,hk⟩:=aV5 h;obtain⟨st2,rs,⟨n2,h2⟩,hq⟩:=ih hk;exact⟨st2,r::rs,⟨max n1 n2,fun n hn=>by simp only[iU,h1 n (by omega),h2 n (by omega)]⟩,hq⟩
theorem aF6 {n:Nat}(l:List aL): ∀{st st':St},gE n call io 0 l st=some st'-> ∃rs,iU n call io 0 l st=some (st',rs):=by
 induction l with
 |nil=>intro st st' h;simp only[gE,bQi]at h;subst h;exact⟨[],rfl⟩
 |cons o l ih=>
  intro st st' h;simp only[gE]at h
  split at h
  ·rename_i st1 r hs;obtain⟨rs,hr⟩:=ih h;exact⟨r::rs,by simp only[iU,hs,hr]⟩
  ·cases h
theorem aV6 {L:bG}{x:aY->St->Option (Ex×St)}{k:Nat}: ∀(l:List aL) {st st':St},gE 8 (bI L k x) (eQ L x) 0 l st=some st'->aDw 8 (bI L k x) (eQ L x) (cM L x) (dZ L x) l st=some (.normal,st')
 |[],st,st',h=>by simp only[gE,bQi]at h;subst h;rfl
 |o::l,st,st',h=>by
  simp only[gE]at h
  split at h
  case h_2=>cases h
  rename_i hs;have hn:dQ 8 (cM L x) (dZ L x) st o=none:=by
   cases hq:dQ 8 (cM L x) (dZ L x) st o with
   |none=>rfl
   |some q=>rw[aAi hq]at hs;cases hs
  simp only[aDw,hn,hs];exact aV6 l h
theorem aEd {L:bG}{x:aY->St->Option (Ex×St)}{k:Nat}: ∀(l:List aL) {j:Nat} {o:aL} {st st':St} {v:Val} {st2:St},l[j]?=some o->gE 8 (bI L k x) (eQ L x) 0 (l.take j) st=some st'->
  dQ 8 (cM L x) (dZ L x) st' o=some (v,st2)->aDw 8 (bI L k x) (eQ L x) (cM L x) (dZ L x) l st=some (.panic v,st2)/\ ∀i,pP 8 (bI L k x) (eQ L x) (cM L x) (dZ L x) l i st=some (i+j)
 |[],j,o,st,st',v,st2,hj,_,_=>by simp at hj
 |o'::l,0,o,st,st',v,st2,hj,hr,hp=>by
  simp only[bS6,bQi]at hj;subst hj;simp only[bQq,gE,bQi]at hr;subst hr;exact⟨by simp only[aDw,hp],fun i=>by simp only[pP,hp,bR5]⟩
 |o'::l,j+1,o,st,st',v,st2,hj,hr,hp=>by
  simp only[bTz]at hj;simp only[bQs,gE]at hr
  split at hr
  case h_2=>cases hr
  rename_i hs;have hn:dQ 8 (cM L x) (dZ L x) st o'=none:=by
   cases hq:dQ 8 (cM L x) (dZ L x) st o' with
   |none=>rfl
   |some q=>rw[aAi hq]at hs;cases hs
  obtain⟨h1,h2⟩:=aEd l hj hr hp
  refine⟨by simp only[aDw,hn,hs];exact h1,fun i=>?_⟩
  simp only[pP,hn,hs];rw[h2 (i+1)]
  congr 1;omega
theorem aH3 {L:bG}{ex:aY->St->Option (Ex×St)}{r:Val×St}(h:dZ L ex f args st=some r):zY L ex f args st=none:=by
 unfold dZ at h
 split at h
 ·cases h
 rename_i lf hL
 split at h
 case isFalse=>cases h
 rename_i hc;have:kQ L ex f args st=none:=by
  simp only[kQ,hL,hc.1,if_true,hc.2,bQm,if_false]
  split at h
  ·rename_i v st' he;rw[he];rfl
  ·cases h
 simp only[zY,this]
theorem aEe {L:bG}(c:aY): ∀{st:St} {Q:Ex->St->Prop},Wp L c st Q-> ∃e st',Ev L c st e st'/\ Q e st':=by
 induction c with
 |skip=>intro st Q h;exact⟨.normal,st,⟨1,fun n hn=>by obtain⟨m,rfl⟩: ∃m,n=m+1:=⟨n-1,by omega⟩;rfl⟩,h⟩
 |ops l=>
  intro st Q h;obtain⟨st',⟨n0,h0⟩,hq⟩:=aAm l h
  refine⟨.normal,st',⟨n0+1,fun n hn=>?_⟩,hq⟩
  obtain⟨m,rfl⟩: ∃m,n=m+1:=⟨n-1,by omega⟩
  have:=h0 m (by omega)
  simp only[lH]at this;simp only[exec,this,Option.map]
 |draw l pairs=>
  intro st Q h;simp only[Wp]at h
  split at h
  ·rename_i hp;obtain⟨st',⟨n0,h0⟩,hq⟩:=aAm l h
   refine⟨.normal,st',⟨n0+1,fun n hn=>?_⟩,hq⟩
   obtain⟨m,rfl⟩: ∃m,n=m+1:=⟨n-1,by omega⟩
   obtain⟨rs,hr⟩:=aF6 l (h0 m (by omega))
   simp only[lH]at hr;simp only[exec,hr,hp,dP,List.all_nil,if_true]
  ·obtain⟨st',rs,⟨n0,h0⟩,hp,hq⟩:=aJq l h
   refine⟨.normal,st',⟨n0+1,fun n hn=>?_⟩,hq⟩
   obtain⟨m,rfl⟩: ∃m,n=m+1:=⟨n-1,by omega⟩
   have hr:=h0 m (by omega)
   simp only[lH]at hr;simp only[exec,hr,hp,if_true]
 |seq a b iha ihb=>
  intro st Q h;obtain⟨e,st1,⟨n1,h1⟩,hk⟩:=iha h;cases e with
  |normal=>
   obtain⟨e2,st2,⟨n2,h2⟩,hq⟩:=ihb hk
   refine⟨e2,st2,⟨max n1 n2+1,fun n hn=>?_⟩,hq⟩
   obtain⟨m,rfl⟩: ∃m,n=m+1:=⟨n-1,by omega⟩
   simp only[exec,h1 m (by omega),h2 m (by omega)]
  |exit id=>
   refine⟨_,st1,⟨n1+1,fun n hn=>?_⟩,hk⟩
   obtain⟨m,rfl⟩: ∃m,n=m+1:=⟨n-1,by omega⟩
   simp only[exec,h1 m (by omega)]
  |ret=>
   refine⟨_,st1,⟨n1+1,fun n hn=>?_⟩,hk⟩
   obtain⟨m,rfl⟩: ∃m,n=m+1:=⟨n-1,by omega⟩
   simp only[exec,h1 m (by omega)]
  |panic v=>
   refine⟨_,st1,⟨n1+1,fun n hn=>?_⟩,hk⟩
   obtain⟨m,rfl⟩: ∃m,n=m+1:=⟨n-1,by omega⟩
   simp only[exec,h1 m (by omega)]
 |cond x a b iha ihb=>
  intro st Q h;simp only[Wp]at h
  split at h
  ·rename_i t ht;cases t with
   |true=>
    obtain⟨e,st1,⟨n1,h1⟩,hk⟩:=iha (by simpa using h)
    refine⟨e,st1,⟨n1+1,fun n hn=>?_⟩,hk⟩
    obtain⟨m,rfl⟩: ∃m,n=m+1:=⟨n-1,by omega⟩
    simp only[exec,ht,h1 m (by omega)]
   |false=>
    obtain⟨e,st1,⟨n1,h1⟩,hk⟩:=ihb (by simpa using h)
    refine⟨e,st1,⟨n1+1,fun n hn=>?_⟩,hk⟩
    obtain⟨m,rfl⟩: ∃m,n=m+1:=⟨n-1,by omega⟩
    simp only[exec,ht,h1 m (by omega)]
  ·exact h.elim
 |block id b ih=>
  intro st Q h;obtain⟨e,st1,⟨n1,h1⟩,hk⟩:=ih h;cases e with
  |exit id'=>
   simp only at hk
   by_cases hi:id'=id
   ·rw[if_pos hi]at hk
    refine⟨.normal,st1,⟨n1+1,fun n hn=>?_⟩,hk⟩
    obtain⟨m,rfl⟩: ∃m,n=m+1:=⟨n-1,by omega⟩
    simp only[exec,h1 m (by omega),hi,if_true]
   ·rw[if_neg hi]at hk
    refine⟨.exit id',st1,⟨n1+1,fun n hn=>?_⟩,hk⟩
    obtain⟨m,rfl⟩: ∃m,n=m+1:=⟨n-1,by omega⟩
    simp only[exec,h1 m (by omega),hi,if_false]
  |normal=>
   refine⟨_,st1,⟨n1+1,fun n hn=>?_⟩,hk⟩
   obtain⟨m,rfl⟩: ∃m,n=m+1:=⟨n-1,by omega⟩
   simp only[exec,h1 m (by omega)]
  |ret=>
   refine⟨_,st1,⟨n1+1,fun n hn=>?_⟩,hk⟩
   obtain⟨m,rfl⟩: ∃m,n=m+1:=⟨n-1,by omega⟩
   simp only[exec,h1 m (by omega)]
  |panic v=>
   refine⟨_,st1,⟨n1+1,fun n hn=>?_⟩,hk⟩
   obtain⟨m,rfl⟩: ∃m,n=m+1:=⟨n-1,by omega⟩
   simp only[exec,h1 m (by omega)]
 |loop b ih=>intro st Q h;exact h
 |exit id=>intro st Q h;exact⟨.exit id,st,⟨1,fun n hn=>by obtain⟨m,rfl⟩: ∃m,n=m+1:=⟨n-1,by omega⟩;rfl⟩,h⟩
 |ret=>intro st Q h;exact⟨.ret,st,⟨1,fun n hn=>by obtain⟨m,rfl⟩: ∃m,n=m+1:=⟨n-1,by omega⟩;rfl⟩,h⟩
 |rangeF g ps a b=>
  intro st Q h;simp only[Wp]at h
  split at h
  ·rename_i f x y hg;rcases h with h|⟨v,en',cnt',⟨n1,h1⟩,hk⟩
   case inr=>
    refine⟨_,_,⟨n1+1,fun n hn=>?_⟩,hk⟩
    obtain⟨m,rfl⟩: ∃m,n=m+1:=⟨n-1,by omega⟩
    have hi:=h1 m (by omega) st.fr
    simp only[jX]at hi;simp only[exec,hg,nQ,jX,aH3 hi,hi]
   obtain⟨v,en',cnt',⟨n1,h1⟩,hk⟩:=h;have run: ∀n,n1+1<=n-> ∀r,(match en' (jX st.cnt)with
     |some (.loop _ _ _ _ .ready)=>some (Ex.normal,{fr:=st.fr,en:=en'.set (jX st.cnt) none,cnt:=cnt':St})
     |some (.loop _ _ _ _ (.done e))=>some (e,{fr:=st.fr,en:=en'.set (jX st.cnt) none,cnt:=cnt'})
     |_=>none)=some r->exec L n (.rangeF g ps a b) st=some r:=by
    intro n hn r hr;obtain⟨m,rfl⟩: ∃m,n=m+1:=⟨n-1,by omega⟩
    have hi:=h1 m (by omega) st.fr
    simp only[Inl.call,eQ]at hi;simp only[exec,hg,nQ];simp only[jX]at hi hr;rw[hi];exact hr
   split at hk
   ·rename_i hl;exact⟨_,_,⟨n1+1,fun n hn=>run n hn _ (by simp only[hl])⟩,hk⟩
   ·rename_i hl;exact⟨_,_,⟨n1+1,fun n hn=>run n hn _ (by simp only[hl])⟩,hk⟩
   ·exact hk.elim
  ·exact h.elim
 |rcv d l b=>intro st Q h;exact h.elim
 |opsP l=>
  intro st Q h;rcases h with h|⟨k,o,hk,h⟩
  ·obtain⟨st',⟨n0,h0⟩,hq⟩:=aAm l h
   refine⟨.normal,st',⟨n0+1,fun n hn=>?_⟩,hq⟩
   obtain⟨m,rfl⟩: ∃m,n=m+1:=⟨n-1,by omega⟩
   rw[exec];exact aV6 l (h0 m (by omega))
  ·obtain⟨st1,⟨n0,h0⟩,hp⟩:=aAm _ h;obtain⟨v,st2,⟨n1,h1⟩,hq⟩:=aAl hp
   refine⟨.panic v,st2,⟨max n0 n1+1,fun n hn=>?_⟩,hq⟩
   obtain⟨m,rfl⟩: ∃m,n=m+1:=⟨n-1,by omega⟩
   rw[exec];exact(aEd l hk (h0 m (by omega)) (h1 m (by omega))).1
 |drawP l an pairs=>
  intro st Q h;rcases h with h|⟨j,o,hj,h1,h2⟩
  ·obtain⟨st',rs,⟨n0,h0⟩,hp,hq⟩:=aJq l h
   refine⟨.normal,st',⟨n0+1,fun n hn=>?_⟩,hq⟩
   obtain⟨m,rfl⟩: ∃m,n=m+1:=⟨n-1,by omega⟩
   have hr:=h0 m (by omega)
   simp only[lH]at hr;simp only[exec,uC l hr,hr,hp,if_true]
  ·obtain⟨s,⟨n0,h0⟩,hp0⟩:=aAm _ h1;obtain⟨v0,s2,⟨n1,hn1⟩,_⟩:=aAl hp0;obtain⟨st1,rs,⟨n2,hn2⟩,hc,hp⟩:=aJq _ h2;obtain⟨v,st2,⟨n3,hn3⟩,hq⟩:=aAl hp
   refine⟨_,_,⟨max (max n0 n1) (max n2 n3)+1,fun n hn=>?_⟩,hq⟩
   obtain⟨m,rfl⟩: ∃m,n=m+1:=⟨n-1,by omega⟩
   have hf:=(aEd l hj (h0 m (by omega)) (hn1 m (by omega))).2 0
   rw[bRg]at hf;have hr:=hn2 m (by omega)
   simp only[lH]at hr;have hoj:l.getD j default=o:=by simp[bQn,hj]
   simp only[exec,hf,vG,hr,hc,if_true,hoj,hn3 m (by omega)]
 |drawL l an pairs A=>
  intro st Q h;rcases h with h|⟨j,o,hj,h1,h2⟩
  ·obtain⟨st',rs,⟨n0,h0⟩,hp,hq⟩:=aJq _ h
   refine⟨.normal,st',⟨n0+1,fun n hn=>?_⟩,hq⟩
   obtain⟨m,rfl⟩: ∃m,n=m+1:=⟨n-1,by omega⟩
   have hr:=h0 m (by omega)
   simp only[lH]at hr;rw[exec];unfold wU;simp only[uC _ hr,hr,hp,if_true]
  ·obtain⟨s,⟨n0,h0⟩,hp0⟩:=aAm _ h1;obtain⟨v0,s2,⟨n1,hn1⟩,_⟩:=aAl hp0;obtain⟨st1,rs,⟨n2,hn2⟩,hc,hp⟩:=aJq _ h2;obtain⟨v,st2,⟨n3,hn3⟩,hq⟩:=aAl hp
   refine⟨_,_,⟨max (max n0 n1) (max n2 n3)+1,fun n hn=>?_⟩,hq⟩
   obtain⟨m,rfl⟩: ∃m,n=m+1:=⟨n-1,by omega⟩
   have hf:=(aEd _ hj (h0 m (by omega)) (hn1 m (by omega))).2 0
   rw[bRg]at hf;have hr:=hn2 m (by omega)
   simp only[lH]at hr;have hoj:(iX A (iG st (l.getD A default)) l).getD j default=o:=by rw[bQn,hj];rfl
   rw[exec];unfold wU;simp only[hf,hr,hc,if_true,hoj,hn3 m (by omega)]
 |dfr ts l f args b ih=>
  intro st Q h;obtain⟨st2,⟨n0,h0⟩,hb⟩:=aAm l h;obtain⟨e,st3,⟨n1,h1⟩,hts,st4,⟨n2,h2⟩,hq⟩:=ih hb
  refine⟨.ret,st4,⟨max n0 (max n1 n2)+1,fun n hn=>?_⟩,hq⟩
  obtain⟨m,rfl⟩: ∃m,n=m+1:=⟨n-1,by omega⟩
  have hr:=h0 m (by omega)
  simp only[lH]at hr;simp only[exec,hr,h1 m (by omega),hts,bQm,if_false,h2 m (by omega),bRd]
theorem wp_loop {L:bG}{b:aY}{Q:Ex->St->Prop}(I:α->St->Prop)(μ:α->Nat)(x:α)(h0:I x st)
  (hr: ∀x st,I x st->Wp L b st fun e st'=>match e with
   | .normal=> ∃y,I y st'/\ μ y<μ x
   | .exit i=>Q (.exit i) st'
   | .ret=>Q .ret st'
   | .panic v=>Q (.panic v) st'):Wp L (.loop b) st Q:=by
 have key: ∀m x st,μ x=m->I x st-> ∃e st',Ev L (.loop b) st e st'/\ Q e st':=by
  intro m
  induction m using Nat.strongRecOn with
  |_ m ih=>
   intro x st hm hI;obtain⟨e,st1,⟨n1,h1⟩,hk⟩:=aEe b (hr x st hI);cases e with
   |normal=>
    obtain⟨y,hy,hlt⟩:=hk;obtain⟨e2,st2,⟨n2,h2⟩,hq⟩:=ih (μ y) (hm▸hlt) y st1 rfl hy
    refine⟨e2,st2,⟨max n1 n2+1,fun n hn=>?_⟩,hq⟩
    obtain⟨m',rfl⟩: ∃m,n=m+1:=⟨n-1,by omega⟩
    simp only[exec,h1 m' (by omega),h2 m' (by omega)]
   |exit id=>
    refine⟨_,st1,⟨n1+1,fun n hn=>?_⟩,hk⟩
    obtain⟨m',rfl⟩: ∃m,n=m+1:=⟨n-1,by omega⟩
    simp only[exec,h1 m' (by omega)]
   |ret=>
    refine⟨_,st1,⟨n1+1,fun n hn=>?_⟩,hk⟩
    obtain⟨m',rfl⟩: ∃m,n=m+1:=⟨n-1,by omega⟩
    simp only[exec,h1 m' (by omega)]
   |panic v=>
    refine⟨_,st1,⟨n1+1,fun n hn=>?_⟩,hk⟩
    obtain⟨m',rfl⟩: ∃m,n=m+1:=⟨n-1,by omega⟩
    simp only[exec,h1 m' (by omega)]
 exact key _ x st rfl h0
theorem wp_mono {L:bG}(c:aY): ∀{st:St} {Q R:Ex->St->Prop},Wp L c st Q->(∀e st',Q e st'->R e st')->Wp L c st R:=by
 have stp: ∀{st:St} {o:aL} {K K':St->Res->Prop},oJ L st o K->(∀s r,K s r->K' s r)->oJ L st o K':=by
  intro st o K K' h hk;unfold oJ at h⊢;split
  ·rename_i hw;simp only[hw]at h;split
   ·rename_i f args hop;simp only[hop]at h;exact h.mono fun _ _ _=>hk _ _
   ·rename_i op hne;have h':WOp L (o.dst.getD 0) (st.cnt 0 (o.dst.getD 0)) st.en (St.get st.fr) o.op fun r=>(r.bump&&o.dst.isNone)=false/\
      K ⟨gZ st.fr o.dst r.v,W.applyAll st.en r.ws,if r.bump then aC st.cnt 0 (o.dst.getD 0) (st.cnt 0 (o.dst.getD 0)+1)else st.cnt⟩ r:=by
     split at h
     ·rename_i f a hx;exact absurd hx (hne f a)
     ·exact h
    have oth: ∀{K K':Res->Prop},(∀r,K r->K' r)->(match cZ (o.dst.getD 0) (st.cnt 0 (o.dst.getD 0)) st.en (St.get st.fr) o.op with|some r=>K r|none=>False)->
      (match cZ (o.dst.getD 0) (st.cnt 0 (o.dst.getD 0)) st.en (St.get st.fr) o.op with|some r=>K' r|none=>False):=by
     intro K K' hk h;split<;>rename_i hr<;>simp only[hr]at h;exact hk _ h
    have mono: ∀{K K':Res->Prop},(∀r,K r->K' r)->WOp L (o.dst.getD 0) (st.cnt 0 (o.dst.getD 0)) st.en (St.get st.fr) o.op K->WOp L (o.dst.getD 0) (st.cnt 0 (o.dst.getD 0)) st.en (St.get st.fr) o.op K':=by
     intro K K' hk h;generalize hop:o.op=op at h⊢oth;cases op with
     |call f args=>
      simp only[WOp]at h⊢
      split at h
      ·split at h
       ·obtain⟨r,h1,h2⟩:=h;exact⟨r,h1,hk _ h2⟩
       ·exact h.elim
      ·exact h.elim
     |_=>exact oth hk h
    exact mono (fun r ⟨h1,h2⟩=>⟨h1,hk _ _ h2⟩) h'
  ·rename_i hw;simp only[hw]at h;exact hk _ _ h
  ·rename_i hw;simp only[hw]at h
 have ops: ∀(l:List aL) {st:St} {Q R:St->Prop},gD L l st Q->(∀s,Q s->R s)->gD L l st R:=by
  intro l
  induction l with
  |nil=>intro st Q R h k;exact k _ h
  |cons o l ih=>intro st Q R h k;exact stp h fun s r hs=>ih hs k
 have rec_: ∀(l:List aL) {st:St} {Q R:St->List Res->Prop},rC L l st Q->(∀s rs,Q s rs->R s rs)->rC L l st R:=by
  intro l
  induction l with
  |nil=>intro st Q R h k;exact k _ _ h
  |cons o l ih=>intro st Q R h k;exact stp h fun s r hs=>ih hs fun s rs hq=>k _ _ hq
 induction c with
 |skip=>intro st Q R h k;exact k _ _ h
 |ops l=>intro st Q R h k;exact ops l h fun s=>k _ s
 |draw l pairs=>
  intro st Q R h k;simp only[Wp]at h⊢
  split at h
  ·rename_i hp;rw[if_pos hp];exact ops l h fun s=>k _ s
  ·rename_i hp;rw[if_neg hp];exact rec_ l h fun s rs ⟨h1,h2⟩=>⟨h1,k _ _ h2⟩
 |seq a b iha ihb=>
  intro st Q R h k
  refine iha h fun e st' hq=>?_
  cases e with
  |normal=>exact ihb hq k
  |exit i=>exact k _ _ hq
  |ret=>exact k _ _ hq
  |panic v=>exact k _ _ hq
 |cond x a b iha ihb=>
  intro st Q R h k;simp only[Wp]at h⊢
  split at h
  ·rename_i t ht
   split at h
   ·rename_i htt;rw[if_pos htt];exact iha h k
   ·rename_i htt;rw[if_neg htt];exact ihb h k
  ·exact h.elim
 |block id b ih=>
  intro st Q R h k
  refine ih h fun e st' hq=>?_
  cases e with
  |normal=>exact k _ _ hq
  |exit i=>
   simp only at hq⊢
   split at hq
   ·rename_i hi;rw[if_pos hi];exact k _ _ hq
   ·rename_i hi;rw[if_neg hi];exact k _ _ hq
  |ret=>exact k _ _ hq
  |panic v=>exact k _ _ hq
 |loop b ih=>intro st Q R h k;obtain⟨e,st',h1,h2⟩:=h;exact⟨e,st',h1,k _ _ h2⟩
 |exit id=>intro st Q R h k;exact k _ _ h
 |ret=>intro st Q R h k;exact k _ _ h
 |rangeF g ps a b=>
  intro st Q R h k;simp only[Wp]at h⊢
  split at h
  ·rcases h with h|h
   ·refine .inl (h.mono fun v en' cnt' hq=>?_)
    split at hq
    ·exact k _ _ hq
    ·exact k _ _ hq
    ·exact hq.elim
   ·exact .inr (h.mono fun v en' cnt' hq=>k _ _ hq)
  ·exact h.elim
 |rcv d l b=>intro st Q R h k;exact h.elim
 |opsP l=>
  intro st Q R h k;rcases h with h|⟨j,o,hj,h⟩
  ·exact .inl (ops l h fun s=>k _ s)
  ·exact .inr ⟨j,o,hj,ops _ h fun s hs=>uE hs fun v s2=>k _ s2⟩
 |drawP l an pairs=>
  intro st Q R h k;rcases h with h|⟨j,o,hj,h1,h2⟩
  ·exact .inl (rec_ l h fun s rs ⟨h1,h2⟩=>⟨h1,k _ _ h2⟩)
  ·exact .inr ⟨j,o,hj,h1,rec_ _ h2 fun s rs ⟨q1,q2⟩=>⟨q1,uE q2 fun v s2=>k _ _⟩⟩
 |drawL l an pairs A=>
  intro st Q R h k;rcases h with h|⟨j,o,hj,h1,h2⟩
  ·exact .inl (rec_ _ h fun s rs ⟨h1,h2⟩=>⟨h1,k _ _ h2⟩)
  ·exact .inr ⟨j,o,hj,h1,rec_ _ h2 fun s rs ⟨q1,q2⟩=>⟨q1,uE q2 fun v s2=>k _ _⟩⟩
 |dfr ts l f args b ih=>
  intro st Q R h k;exact ops l h fun st2 hb=>ih hb fun e st3 ⟨h1,st4,h2,h3⟩=>⟨h1,st4,h2,k _ _ h3⟩
theorem bG6 {L:bG}{a b:aY}{Q:Ex->St->Prop}(M:St->Prop)
  (h:Wp L a st fun e st'=>match e with| .normal=>M st'| .exit i=>Q (.exit i) st'| .ret=>Q .ret st'| .panic v=>Q (.panic v) st') (k: ∀st',M st'->Wp L b st' Q):Wp L (.seq a b) st Q:=by
 refine wp_mono a h fun e st' hq=>?_
 cases e with
 |normal=>exact k _ hq
 |exit i=>exact hq
 |ret=>exact hq
 |panic v=>exact hq
def bAq (st:St)(lf:jC)(r:Val):Prop:=
 match cP (oP st) lf.res with
 |some vs=>match(if lf.keep then aVu st.en (zI vs)else none)with
  |some v=>v=r
  |none=>match snapD 8 st.en (zI vs)with
   |some (v,_)=>(if lf.keep then v else v.wk)=r
   |none=>False
 |none=>False
def bG7 (L:bG)(lf:jC)(args:List Val)(r:Val):Prop:= ∃n0,∀n,n0<=n->iS lf 8 (exec L n) args=some r
theorem pW {L:bG}(h:Wp L lf.body (start args) fun e st=>e.ends=true/\ bAq st lf r):bG7 L lf args r:=by
 obtain⟨e,st,⟨n1,h1⟩,he,h2⟩:=aEe _ h
 refine⟨n1,fun n hm=>?_⟩
 simp only[iS,h1 n (by omega),he,if_true,aDu]
 unfold bAq at h2
 split at h2
 ·rename_i vs hvs;simp only[hvs]
  split at h2
  ·rename_i v hv;rw[hv,h2]
  ·rename_i hv;rw[hv]
   split at h2
   ·rename_i v ks hs;simp only[uD _ _ _ _ hs 8 (bQk _),h2]
   ·exact h2.elim
 ·exact h2.elim
theorem cJ {L:bG}(hL:L f=some lf)(hn:args.length=lf.np)(ha:rO lf args=false)
  (h:Wp L lf.body (start args) fun e st=>e.ends=true/\ bAq st lf r):PC L f args r:=by
 obtain⟨n1,h1⟩:=pW h
 refine⟨n1,fun n hm=>?_⟩
 simp only[lH,bI,hL,hn,if_true,ha,bQm,if_false,h1 n (by omega)]
theorem bDy {a b:Option Val}(ha:a=some r)(hb:b=some r)(hr:r= .cl [] \/r= .fz []):jS a b=some r:=by
 rcases hr with rfl|rfl<;>simp[ha,hb,jS]
theorem aJr {L:bG}(hL:L f=some lf)(hn:args.length=lf.np)(ha:rO lf args=true)(hr:r= .cl [] \/r= .fz [])(h1:bG7 L lf [.es true] r)(h2:bG7 L lf [.es false] r):PC L f args r:=by
 obtain⟨n1,h1⟩:=h1;obtain⟨n2,h2⟩:=h2
 refine⟨max n1 n2,fun n hm=>?_⟩
 simp only[lH,bI,hL,hn,if_true,ha];exact bDy (h1 n (by omega)) (h2 n (by omega)) hr
theorem fR {L:bG}{b:List Val}(hL:L f=some lf)(hn:(a++args++b).length=lf.np)(ha:rO lf (a++args++b)=false)
  (h:Wp L lf.body ⟨fun i=>(a++args++b).getD i (.tup []),en,cnt⟩ fun e st=>e.ends=true/\ match cP (oP st) lf.res with|some vs=>Q (zI vs) st.en st.cnt|none=>False) (hz:lf.nrm=[]:=by rfl):WIn L (.fn f a b) args en cnt Q:=by
 obtain⟨e,st,⟨n1,h1⟩,he,h2⟩:=aEe _ h
 split at h2
 ·rename_i vs hvs
  refine⟨_,_,_,⟨n1,fun n hm fr=>?_⟩,h2⟩
  simp only[Inl.call,eQ,zY,kQ,hL,hn,if_true,ha,bQm,if_false,h1 n hm,he,hvs,Option.map,hz,norms]
 ·exact h2.elim
def cN (en:En):Val->Option (Val×List Key)
 | .ptr k off=>some (.ptr k off,[])
 |v=>match snapD 8 en v with
  |some r=>some (r.1.wk0,r.2)
  |none=>none
def uG (en:En)(k:Key):Option En:=
 match en k with
 |some (.box cs false)=>match cP (cN en) cs with
  |some rs=>if(rs.flatMap (·.2)).contains k then none else some ((W.applyAll en ((rs.flatMap (·.2)).map .frz)).set k (some (.box (rs.map (·.1)) false)))
  |none=>none
 |_=>none
def oH (x:Val):List (List Nat)->En->Option En
 |[],en=>some en
 |p::ps,en=>match aQl en p x with
  |some k=>match uG en k with
   |some en'=>oH x ps en'
   |none=>none
  |none=>none
theorem aO1 {r:Val×List Key}(h:cN en v=some r):aDx en v=some r:=by
 cases v<;>simp only[cN,aDx]at h⊢ <;>first
  |exact h
  |(split at h
    case h_2=>cases h
    rename_i r' hr;rw[uD en 8 _ _ hr 8 (bQk _)];exact h)
variable {en':En}
theorem aRf {k:Key}(h:uG en k=some en'):aDy en k=some en':=by
 unfold uG at h;unfold aDy
 split at h
 ·rename_i cs hk;simp only[hk]
  split at h
  ·rename_i rs hrs;simp only[aAk (fun x y hx=>aO1 hx) hrs];exact h
  ·cases h
 ·cases h
theorem aM5 {x:Val}: ∀{ps:List (List Nat)} {en en':En},oH x ps en=some en'->norms x ps en=some en'
 |[],_,_,h=>h
 |p::ps,en,en',h=>by
  simp only[oH]at h;simp only[norms]
  split at h
  case h_2=>cases h
  rename_i k hk
  split at h
  case h_2=>cases h
  rename_i e1 h1;simp only[hk,aRf h1];exact aM5 h
theorem rL {L:bG}{b:List Val}(hL:L f=some lf)(hn:(a++args++b).length=lf.np)(ha:rO lf (a++args++b)=false)
  (h:Wp L lf.body ⟨fun i=>(a++args++b).getD i (.tup []),en,cnt⟩ fun e st=>e.ends=true/\ match cP (oP st) lf.res with|some vs=>(match oH ((a++args++b).getD 0 .dead) lf.nrm st.en with|some en'=>Q (zI vs) en' st.cnt|none=>False)|none=>False):WIn L (.fn f a b) args en cnt Q:=by
 obtain⟨e,st,⟨n1,h1⟩,he,h2⟩:=aEe _ h
 split at h2
 ·rename_i vs hvs
  split at h2
  ·rename_i en' hen
   refine⟨_,_,_,⟨n1,fun n hm fr=>?_⟩,h2⟩
   simp only[Inl.call,eQ,zY,kQ,hL,hn,if_true,ha,bQm,if_false,h1 n hm,he,hvs,Option.map,aM5 hen]
  ·exact h2.elim
 ·exact h2.elim
variable {fr:Nat->Val}
theorem aIg {L:bG}{k:Key}{a b:aY}
  (hk:en k=some (.loop fr ps a b .ready)) (hn:args.length=ps.length)
  (h:Wp L a ⟨zX fr ps args,en,cnt⟩ fun e st=>e= .normal/\ match st.en k with
   |some (.loop fr1 ps1 a1 b1 .ready)=>Wp L b ⟨st.fr,st.en.set k (some (.loop fr1 ps1 a1 b1 .busy)),st.cnt⟩ fun e st=>match st.en k with
    |some (.loop fr2 ps2 a2 b2 .busy)=>e.calm=true/\ Q (.bool (decide (e= .normal))) (st.en.set k (some (.loop fr2 ps2 a2 b2 (if e= .normal then .ready else .done e)))) st.cnt
    |_=>False
   |_=>False):WIn L (.yld k) args en cnt Q:=by
 obtain⟨e,st,⟨n1,h1⟩,rfl,h2⟩:=aEe _ h
 split at h2
 ·rename_i fr1 ps1 a1 b1 hk1;obtain⟨e2,st2,⟨n2,h3⟩,h4⟩:=aEe _ h2
  split at h4
  ·rename_i hk2
   refine⟨_,_,_,⟨max n1 n2,fun n hm fr'=>?_⟩,h4.2⟩
   simp only[Inl.call,eQ,aDv,hk,hn,if_true,h1 n (by omega),hk1,h3 n (by omega),hk2,h4.1]
  ·exact h4.elim
 ·exact h2.elim
theorem bJe {L:bG}(hL:L f=some lf)(hn:args.length=lf.np)(ha:rO lf args=false)
  (h:Wp L lf.body (start args) fun e st=>e= .panic v):PX L f args v:=by
 obtain⟨e,st,⟨n1,h1⟩,he⟩:=aEe _ h;subst he;exact⟨n1,fun n hm=>by simp only[bGl,cM,hL,hn,ha,true_and,if_true,h1 n hm,and_self]⟩
theorem jL {L:bG}(hL:L f=some lf)(hn:args.length=lf.np)(ha:rO lf args=false)
  (h:Wp L lf.body ⟨fun i=>args.getD i (.tup []),en,cnt⟩ fun e st=>match e with| .panic v=>Q v st.en st.cnt|_=>False):vC L f args en cnt Q:=by
 obtain⟨e,st,⟨n1,h1⟩,he⟩:=aEe _ h;cases e with
 |panic v=>exact⟨v,st.en,st.cnt,⟨n1,fun n hm fr=>by simp only[dZ,hL,hn,ha,true_and,if_true,h1 n hm,and_self]⟩,he⟩
 |_=>exact he.elim
variable {dst:Option Nat}
theorem tD {L:bG}{b:List Val}{c:aY}{e:Ex}{st3:St}{K:St->Prop}(hL:L g=some lf)(hb:lf.body= .rcv dst l c)(hv:e.rcvd=some v)(hn:(a++args++b).length=lf.np)(hr:lf.res=[])
  (h:gD L l ⟨gZ (fun i=>(a++args++b).getD i (.tup [])) dst v,st3.en,st3.cnt⟩ fun st1=>Wp L c st1 fun e' st'=>e'.ends=true/\ K ⟨st3.fr,st'.en,st'.cnt⟩):
  ∃st4,(∃n0,∀n,n0<=n->iC L (exec L n) (.fn g a b) args e st3=some st4)/\ K st4:=by
 obtain⟨st1,⟨n0,h0⟩,h1⟩:=aAm l h;obtain⟨e',st',⟨n1,h2⟩,he,hk⟩:=aEe c h1
 refine⟨_,⟨max n0 n1,fun n hm=>?_⟩,hk⟩
 have hr':=h0 n (by omega)
 simp only[lH]at hr';simp only[iC,hL,hb,hv,hn,hr,List.isEmpty_nil,and_self,if_true,hr',h2 n (by omega),he]
theorem bG8 {L:bG}{n:Nat}(h:lH L n f args=some r):PC L f args r:=⟨n,fun _ hm=>aAj hm h⟩
variable {e:Option Ent}{k':Key}{g' n' t t' off size id:Nat}{u:Key->Bool}{ws:List W}{r':Option Res}{x c:Opd}{z a' xs vs ys:List Val}{k:IntKind}{b b' ok:Bool}{no yes:Prop}{v' f':Val}{K:Val->Prop}{o':Option (List (Val×List Key))}{ks:List Key}{s:ByteArray}
section
variable {L :bG}{Q:St->Prop}
@[go_sem] theorem g_t {i:Nat}:St.get fr (.t i)=fr i:=(rfl)
@[go_sem] theorem g_c :St.get fr (.c v)=v:=(rfl)
@[go_sem] theorem g_f {i:Nat}:St.get fr (.f i)= .fn i [] []:=(rfl)
@[go_sem] theorem bO9 :jD fr d v d=v:=by simp[jD]
@[go_sem] theorem bPa {i:Nat}(h: ¬i=d):jD fr d v i=fr i:=by simp[jD,h]
@[go_sem] theorem bJf :gZ fr (some d) v=jD fr d v:=(rfl)
@[go_sem] theorem bJg :gZ fr none v=fr:=(rfl)
@[go_sem] theorem cC {k:Key}:En.set en k e k=e:=by simp[En.set]
theorem jE {k:Key}(h:k'≠k):En.set en k e k'=en k':=by simp[En.set,h]
@[go_sem] theorem bK6 {n:Nat}(h: ¬t'=t):En.set en ⟨n,t,g⟩ e ⟨n',t',g'⟩=en ⟨n',t',g'⟩:=
 jE fun he=>h (by injection he)
@[go_sem] theorem aV7 {n:Nat}(h: ¬g'=g):En.set en ⟨n,t,g⟩ e ⟨n',t',g'⟩=en ⟨n',t',g'⟩:=
 jE fun he=>h (by injection he)
@[go_sem] theorem bAr {n x:Nat}:aC cnt n t x n t=x:=by simp[aC]
@[go_sem] theorem bAs {n x:Nat}(h: ¬t'=t):aC cnt n t x n t'=cnt n t':=by simp[aC,h]
@[go_sem] theorem bPb (st:St):gD L [] st Q=Q st:=(rfl)
def LOp.plain :LOp->Bool
 | .call _ _| .icall _ _=>false
 |_=>true
def aJs (L:bG)(l:List aL)(dst:Option Nat)(fr:Nat->Val)(en:En)(cnt:Nat->Nat->Nat)(Q:St->Prop):Option Res->Prop
 |some r=>(r.bump&&dst.isNone)=false/\ gD L l ⟨gZ fr dst r.v,W.applyAll en r.ws,if r.bump then aC cnt 0 (dst.getD 0) (cnt 0 (dst.getD 0)+1)else cnt⟩ Q
 |none=>False
@[go_sem] theorem aM6 {rs:List R}{m:Option (En×(Nat->Nat->Nat))}:
  aJs L l dst fr en cnt Q (some ⟨v,ws,rs,false,m,u⟩)=gD L l ⟨gZ fr dst v,W.applyAll en ws,cnt⟩ Q:=by simp[aJs]
@[go_sem] theorem aF7 {rs:List R}{m:Option (En×(Nat->Nat->Nat))}:
  aJs L l (some d) fr en cnt Q (some ⟨v,ws,rs,true,m,u⟩)=gD L l ⟨jD fr d v,W.applyAll en ws,aC cnt 0 d (cnt 0 d+1)⟩ Q:=by simp[aJs,gZ]
@[go_sem] theorem bIg :aJs L l dst fr en cnt Q none=False:=(rfl)
@[congr] theorem bG9 {r:Option Res}(h:r=r'):aJs L l dst fr en cnt Q r=aJs L l dst fr en cnt Q r':=by rw[h]
@[congr] theorem bHa :gD L l st Q=gD L l st Q:=(rfl)
theorem aRg (h:op.plain=true):gD L (⟨dst,op,none⟩::l) ⟨fr,en,cnt⟩ Q=
  aJs L l dst fr en cnt Q (cZ (dst.getD 0) (cnt 0 (dst.getD 0)) en (St.get fr) op):=by
 cases op<;>first|(simp[LOp.plain]at h;done)|rfl|(simp only[gD,oJ,wanted,WOp];rfl)
@[go_sem] theorem bM6 (h:op.plain=true):gD L (⟨some d,op,none⟩::l) ⟨fr,en,cnt⟩ Q=
  aJs L l (some d) fr en cnt Q (cZ d (cnt 0 d) en (St.get fr) op):=aRg h
@[go_sem] theorem bM7 (h:op.plain=true):gD L (⟨none,op,none⟩::l) ⟨fr,en,cnt⟩ Q=
  aJs L l none fr en cnt Q (cZ 0 (cnt 0 0) en (St.get fr) op):=aRg h
@[go_sem] theorem bPc :LOp.plain (.mv x)=true:=(rfl)
@[go_sem] theorem bK7 {a b:Opd}:LOp.plain (.pick a b c)=true:=(rfl)
@[go_sem] theorem bJh :LOp.plain (.alloc z)=true:=(rfl)
@[go_sem] theorem bM8 {n:Nat}:LOp.plain (.box n x)=true:=(rfl)
@[go_sem] theorem bJi {p:List (Nat×Nat×Opd)}:LOp.plain (.build z p)=true:=(rfl)
@[go_sem] theorem bIh {a b:Nat}{p:List (Nat×Opd)}:LOp.plain (.bslice a b z p)=true:=(rfl)
@[go_sem] theorem bK8 {a:Bool}{n:Nat}:LOp.plain (.load a n x)=true:=(rfl)
@[go_sem] theorem bJj {n:Nat}{y:Opd}:LOp.plain (.store n x y)=true:=(rfl)
@[go_sem] theorem bJk :LOp.plain (.nilck x)=true:=(rfl)
@[go_sem] theorem bM9 {b:BinOp}{t:EqT}{y:Opd}:LOp.plain (.bin b t x y)=true:=(rfl)
@[go_sem] theorem bPd {u:UnOp}:LOp.plain (.un u x)=true:=(rfl)
@[go_sem] theorem bK9 :LOp.plain (.wrap k x)=true:=(rfl)
@[go_sem] theorem bJl :LOp.plain (.iface t x)=true:=(rfl)
@[go_sem] theorem bIi {z:Val}:LOp.plain (.assert t z b x)=true:=(rfl)
@[go_sem] theorem bLa {a b:List Opd}:LOp.plain (.mkfn f a b)=true:=(rfl)
@[go_sem] theorem bJm  :LOp.plain (.mkmap)=true:=(rfl)
@[go_sem] theorem bLb {t:EqT}{a b:Opd}:LOp.plain (.mput t a b c)=true:=(rfl)
@[go_sem] theorem bLc {t:EqT}{z:Val}{y:Opd}:LOp.plain (.mget t z b x y)=true:=(rfl)
@[go_sem] theorem bJn {n:Nat}{y:Opd}:LOp.plain (.mklen n z x y)=true:=(rfl)
@[go_sem] theorem bJo {n:Nat}{l h m:Option Opd}:LOp.plain (.slice b n x l h m)=true:=(rfl)
@[go_sem] theorem bPe {n:Nat}:LOp.plain (.fa n x)=true:=(rfl)
@[go_sem] theorem bNa {n:Nat}:LOp.plain (.fld b n m x)=true:=(rfl)
@[go_sem] theorem bPf {n:Nat}{y:Opd}:LOp.plain (.ia n x y)=true:=(rfl)
@[go_sem] theorem bNb {y:Opd}:LOp.plain (.ixs x y)=true:=(rfl)
@[go_sem] theorem bNc {n:Nat}{y:Opd}:LOp.plain (.ixa b n m x y)=true:=(rfl)
@[go_sem] theorem bNd {n:Nat}:LOp.plain (.ext n x)=true:=(rfl)
@[go_sem] theorem bNe {t:EqT}:LOp.plain (.len t x)=true:=(rfl)
theorem bP {n:Nat}{y:Opd}:LOp.plain (.append n x y)=true:=(rfl)
@[go_sem] theorem bIj {l:List Opd}:LOp.plain (.minmax b l)=true:=(rfl)
@[go_sem] theorem bNf :LOp.plain (.rng x)=true:=(rfl)
@[go_sem] theorem bNg :LOp.plain (.nxt x)=true:=(rfl)
def pX (v:Val)(b:Bool)(yes no:Prop):Prop:=
 match v with
 | .bool b'=>if(b'==b)=true then yes else no
 | .tup []=>no
 |_=>False
@[congr] theorem bFp (h:v=v'):pX v b yes no=pX v' b yes no:=by rw[h]
@[go_sem] theorem bDz :gD L (⟨dst,op,some (t,b)⟩::l) ⟨fr,en,cnt⟩ Q=
  pX (fr t) b (gD L (⟨dst,op,none⟩::l) ⟨fr,en,cnt⟩ Q) (gD L l ⟨gZ fr dst (.tup []),en,cnt⟩ Q):=by
 simp only[gD,oJ,wanted,pX]
 split<;>rename_i h
 ·split at h
  ·rename_i b' hb;simp only[bQi]at h;simp only[hb,h,if_true]
  ·cases h
  ·cases h
 ·split at h
  ·rename_i b' hb;simp only[bQi]at h;simp only[hb,h,bQm,if_false]
  ·rename_i hb;simp only[hb]
  ·cases h
 ·split at h
  ·cases h
  ·cases h
  ·rename_i h1 h2;split
   ·rename_i b' hb;exact absurd hb (h1 _)
   ·rename_i hb;exact absurd hb h2
   ·rfl
@[go_sem] theorem bJp :pX (.bool true) true yes no=yes:=(rfl)
@[go_sem] theorem bJq :pX (.bool false) false yes no=yes:=(rfl)
@[go_sem] theorem bJr :pX (.bool true) false yes no=no:=(rfl)
@[go_sem] theorem bJs :pX (.bool false) true yes no=no:=(rfl)
@[go_sem] theorem bJt :pX (.tup []) b yes no=no:=(rfl)
theorem bC (h:b=b'->yes)(k:b=!b'->no):pX (.bool b) b' yes no:=by
 cases b<;>cases b'<;>first|exact h rfl|exact k rfl
@[congr] theorem bIk {f:Val}{K:Val->En->(Nat->Nat->Nat)->Prop}(h:f=f')(h':a=a'):WIn L f a en cnt K=WIn L f' a' en cnt K:=by rw[h,h']
@[go_sem] theorem bLd {f:Opd}{args:List Opd}:gD L (⟨dst,.icall f args,none⟩::l) ⟨fr,en,cnt⟩ Q=
  WIn L (St.get fr f) (args.map (St.get fr)) en cnt fun v en' cnt'=>gD L l ⟨gZ fr dst v,en',cnt'⟩ Q:=(rfl)
def aRh (L:bG)(f:Nat)(args:List Val)(K:Val->Prop):Prop:= ∃r,PC L f args r/\ K r
@[congr] theorem bHb (h:a=a'):aRh L f a K=aRh L f a' K:=by rw[h]
theorem _root_.Go.Abs.PC.ret {L:bG}(h:PC L f args r):aRh L f args K=K r:=
 propext ⟨fun⟨s,h1,h2⟩=>h.det h1▸h2,fun h2=>⟨r,h,h2⟩⟩
def aHb (L:bG)(f:Nat)(o:Option (List (Val×List Key)))(K:Val->List Key->Prop):Prop:=
 match o with
 |some rs=>aRh L f (rs.map (·.1.wk1)) fun r=>K r (rs.flatMap (·.2))
 |none=>False
@[congr] theorem bFq {o:Option (List (Val×List Key))}{K:Val->List Key->Prop}(h:o=o'):aHb L f o K=aHb L f o' K:=by rw[h]
@[go_sem] theorem bPg {rs:List (Val×List Key)}{K:Val->List Key->Prop}:aHb L f (some rs) K=aRh L f (rs.map (·.1.wk1)) fun r=>K r (rs.flatMap (·.2)):=(rfl)
def aCg (L:bG)(en:En)(f:Val)(args:List Val)(K:Val->List Key->Prop):Prop:=
 match f with
 | .fn f a b=>aHb L f (cP (snapD 8 en) (a++args++b)) K
 |_=>False
@[congr] theorem bFr {f:Val}{K:Val->List Key->Prop}(h:f=f')(h':a=a'):aCg L en f a K=aCg L en f' a' K:=by rw[h,h']
@[go_sem] theorem bNh {f:Opd}{args:List Opd}:gD L (⟨dst,.call f args,none⟩::l) ⟨fr,en,cnt⟩ Q=
  aCg L en (St.get fr f) (args.map (St.get fr)) fun r ks=>aJs L l dst fr en cnt Q (some (gV 0 (dst.getD 0) (cnt 0 (dst.getD 0)) r ks)):=by
 simp only[gD,oJ,wanted,WOp,aCg,aHb,aRh];cases St.get fr f<;>first|rfl|skip
@[go_sem] theorem bPh {b:List Val}{K:Val->List Key->Prop}:aCg L en (.fn f a b) args K=aHb L f (cP (snapD 8 en) (a++args++b)) K:=(rfl)
def oV :Val->Bool
 | .own _ _=>true
 |_=>false
@[go_sem] theorem bFs {sz:Nat}:gV me d g (.own sz xs) ks=
  {v:= .bl ⟨me,d,g⟩ 0 xs.length,ws:=(if xs.all Val.flat1 then []else ks.map .frz)++[.ent ⟨me,d,g⟩ (some (.blk sz xs false))],rs:=ks.map .val,bump:=true}:=(rfl)
@[go_sem] theorem aRi (h:oV v=false):gV me d g v ks={v,ws:=if v.flat then []else ks.map .frz,rs:=ks.map .val}:=by
 cases v<;>first|rfl|cases h
section
variable {i:Int}{x:ByteArray}
@[go_sem] theorem bNi :oV (.int k i)=false:=(rfl)
@[go_sem] theorem bLe :oV (.bool b)=false:=(rfl)
@[go_sem] theorem bNj :oV (.str x)=false:=(rfl)
@[go_sem] theorem bPi :oV (.fz xs)=false:=(rfl)
@[go_sem] theorem bPj :oV (.cl xs)=false:=(rfl)
@[go_sem] theorem bNk :oV (.agg xs)=false:=(rfl)
@[go_sem] theorem bNl :oV (.tup xs)=false:=(rfl)
@[go_sem] theorem bPk :oV (.fp xs m)=false:=(rfl)
@[go_sem] theorem bPl :oV (.fn m xs ys)=false:=(rfl)
@[go_sem] theorem bLf :oV .nili=false:=(rfl)
@[go_sem] theorem bNm :oV (.ifc m v)=false:=(rfl)
end
@[go_sem] theorem aEf {α β:Type}{f:α->Option β}:cP f []=some []:=(rfl)
@[go_sem] theorem aBu {α β:Type}{f:α->Option β}{x:α}{xs:List α}:cP f (x::xs)=(match f x with|some y=>(match cP f xs with|some ys=>some (y::ys)|none=>none)|none=>none):=(rfl)
@[go_sem] theorem bIl {cs:List Val}:iL true cs=some (.agg cs):=(rfl)
@[go_sem] theorem bIm :iL false [v]=some v:=(rfl)
attribute [go_sem] o og on ong
def sG (cs:List Val)(off:Nat):Option Val:=cs[off]?
@[go_sem] theorem bJu {cs:List Val}:sG (v::cs) 0=some v:=(rfl)
@[go_sem] theorem bJv {cs:List Val}{n:Nat}:sG (v::cs) (n+1)=sG cs n:=(rfl)
section
@[go_sem] theorem bPm {x:Opd}:cZ d g en get (.mv x)=some {v:=get x}:=(rfl)
def aO2 (c a b:Val):Option Res:=match c with| .bool t=>some {v:=if t then a else b}|_=>none
@[go_sem] theorem bLg {a b:Opd}:cZ d g en get (.pick c a b)=aO2 (get c) (get a) (get b):=(rfl)
@[go_sem] theorem bNn {a b:Val}:aO2 (.bool true) a b=some {v:=a}:=(rfl)
@[go_sem] theorem bNo {a b:Val}:aO2 (.bool false) a b=some {v:=b}:=(rfl)
@[go_sem] theorem bNp {t a:Bool}:aO2 (.bool t) (.bool a) (.bool b)=some {v:= .bool (if t then a else b)}:=by cases t<;>rfl
@[go_sem] theorem bJw :cZ d g en get (.alloc z)=some {v:= .ptr ⟨0,d,g⟩ 0,ws:=[.ent ⟨0,d,g⟩ (some (.box z false))],bump:=true}:=(rfl)
def pY (d g m:Nat)(x:Val):Option Res:=if x.one=true/\ x.cells.length=m then some {v:= .ptr ⟨0,d,g⟩ 0,ws:=[.ent ⟨0,d,g⟩ (some (.box x.cells false))],bump:=true}else none
@[go_sem] theorem bNq {x:Opd}:cZ d g en get (.box m x)=pY d g m (get x):=(rfl)
@[go_sem] theorem bLh {cs:List Val}(h:cs.length=m):pY d g m (.agg cs)=some {v:= .ptr ⟨0,d,g⟩ 0,ws:=[.ent ⟨0,d,g⟩ (some (.box cs false))],bump:=true}:=by simp[pY,Val.one,Val.cells,h]
@[go_sem] theorem bLi {n:Int}:pY d g 1 (.int k n)=some {v:= .ptr ⟨0,d,g⟩ 0,ws:=[.ent ⟨0,d,g⟩ (some (.box [.int k n] false))],bump:=true}:=by simp[pY,Val.one,Val.cells]
@[go_sem] theorem bJx :pY d g 1 (.bool b)=some {v:= .ptr ⟨0,d,g⟩ 0,ws:=[.ent ⟨0,d,g⟩ (some (.box [.bool b] false))],bump:=true}:=by simp[pY,Val.one,Val.cells]
@[go_sem] theorem bLj {b:ByteArray}:pY d g 1 (.str b)=some {v:= .ptr ⟨0,d,g⟩ 0,ws:=[.ent ⟨0,d,g⟩ (some (.box [.str b] false))],bump:=true}:=by simp[pY,Val.one,Val.cells]
@[go_sem] theorem bNr :pY d g 1 (.fz xs)=some {v:= .ptr ⟨0,d,g⟩ 0,ws:=[.ent ⟨0,d,g⟩ (some (.box [.fz xs] false))],bump:=true}:=by simp[pY,Val.one,Val.cells]
@[go_sem] theorem bNs {i:Nat}:pY d g 1 (.fp xs i)=some {v:= .ptr ⟨0,d,g⟩ 0,ws:=[.ent ⟨0,d,g⟩ (some (.box [.fp xs i] false))],bump:=true}:=by simp[pY,Val.one,Val.cells]
@[go_sem] theorem bLk {k:Key}{i:Nat}:pY d g 1 (.ptr k i)=some {v:= .ptr ⟨0,d,g⟩ 0,ws:=[.ent ⟨0,d,g⟩ (some (.box [.ptr k i] false))],bump:=true}:=by simp[pY,Val.one,Val.cells]
@[go_sem] theorem bNt {b:List Val}:pY d g 1 (.fn f a b)=some {v:= .ptr ⟨0,d,g⟩ 0,ws:=[.ent ⟨0,d,g⟩ (some (.box [.fn f a b] false))],bump:=true}:=by simp[pY,Val.one,Val.cells]
@[go_sem] theorem bJy {ps:List (Nat×Nat×Opd)}:cZ d g en get (.build z ps)=(sF z (ps.map fun p=>(p.1,p.2.1,get p.2.2))).map fun cs=>{v:= .agg cs}:=(rfl)
@[go_sem] theorem bLl {agg:Bool}{a:Opd}:cZ d g en get (.load agg m a)=(match qZ en (get a) m with|some (cs,rs)=>(iL agg cs).map fun v=>{v,rs}|none=>none):=(rfl)
@[go_sem] theorem bNu {op:BinOp}{t:EqT}{x y:Opd}:cZ d g en get (.bin op t x y)=(cX op t (get x) (get y)).map fun v=>{v}:=(rfl)
def bAt (x:Val):Option Res:=match x with| .bool b=>some {v:= .bool !b}|_=>none
def bAu (x:Val):Option Res:=match x with| .int k a=>some {v:= .int k (k.wrap (0-a))}|_=>none
@[go_sem] theorem bNv {x:Opd}:cZ d g en get (.un .not x)=bAt (get x):=by
 simp only[cZ,eval,bAt];cases get x<;>rfl
@[go_sem] theorem bNw {x:Opd}:cZ d g en get (.un .neg x)=bAu (get x):=by
 simp only[cZ,eval,bAu];cases get x<;>rfl
@[go_sem] theorem bPn :bAt (.bool b)=some {v:= .bool !b}:=(rfl)
@[go_sem] theorem bPo {a:Int}:bAu (.int k a)=some {v:= .int k (k.wrap (0-a))}:=(rfl)
def bAv (k:IntKind)(x:Val):Option Res:=match x with| .int _ a=>some {v:= .int k (k.wrap a)}|_=>none
@[go_sem] theorem bLm {x:Opd}:cZ d g en get (.wrap k x)=bAv k (get x):=(rfl)
@[go_sem] theorem bNx {j:IntKind}{a:Int}:bAv k (.int j a)=some {v:= .int k (k.wrap a)}:=(rfl)
@[go_sem] theorem bJz {x:Opd}:cZ d g en get (.iface t x)=if(get x).one=true then some {v:= .ifc t (get x)}else none:=(rfl)
def aEg (t:Nat)(z:Val)(ok:Bool)(x:Val):Option Res:=match x with
 | .ifc t' v=>if t'=t then some {v:=if ok then .tup [v,.bool true]else v}else if ok then some {v:= .tup [z,.bool false]}else none
 | .nili=>if ok then some {v:= .tup [z,.bool false]}else none
 |_=>none
@[go_sem] theorem bIn {z:Val}{x:Opd}:cZ d g en get (.assert t z ok x)=aEg t z ok (get x):=(rfl)
@[go_sem] theorem bHc {z:Val}:aEg t z true (.ifc t' v)=some {v:=if t'=t then .tup [v,.bool true]else .tup [z,.bool false]}:=by
 simp only[aEg];split<;>simp
@[go_sem] theorem bHd {z:Val}:aEg t z true .nili=some {v:= .tup [z,.bool false]}:=(rfl)
@[go_sem] theorem bLn {a b:List Opd}:cZ d g en get (.mkfn f a b)=some {v:= .fn f (a.map get) (b.map get)}:=(rfl)
@[go_sem] theorem bJ0 :cZ d g en get .mkmap=some {v:= .mp ⟨0,d,g⟩,ws:=[.ent ⟨0,d,g⟩ (some (.map [] [] false))],bump:=true}:=(rfl)
def aJt (t:EqT)(en:En)(x:Val):Option Res:=match t with
  | .map=>match x with
   | .mp key=>match en key with
    |some (.map ks _ _)=>some {v:= .int .i64 ks.length,rs:=[.val key]}
    |_=>none
   | .fm ks _=>some {v:= .int .i64 ks.length}
   | .nilm=>some {v:= .int .i64 0}
   |_=>none
  | .str=>match x with
   | .str s=>some {v:= .int .i64 s.size}
   |_=>none
  | .slice=>(tP x).map fun m=>{v:= .int .i64 m}
  |_=>none
@[go_sem] theorem bNy {t:EqT}{x:Opd}:cZ d g en get (.len t x)=aJt t en (get x):=(rfl)
@[go_sem] theorem bPp {x:Val}:aJt .slice en x=(tP x).map fun(m:Nat)=>{v:= .int .i64 (m:Int)}:=by simp only[aJt];cases tP x<;>rfl
@[go_sem] theorem bLo :aJt .str en (.str s)=some {v:= .int .i64 s.size}:=(rfl)
@[go_sem] theorem bJ1 :aJt .map en .nilm=some {v:= .int .i64 0}:=(rfl)
@[go_sem] theorem bNz {ks:List Val}:aJt .map en (.fm ks vs)=some {v:= .int .i64 ks.length}:=(rfl)
@[go_sem] theorem bJ2 :tP (.fz xs)=some xs.length:=(rfl)
@[go_sem] theorem bJ3 :tP (.cl xs)=some xs.length:=(rfl)
@[go_sem] theorem bJ4 {k:Key}{o n:Nat}:tP (.bl k o n)=some n:=(rfl)
def bFt (i:Nat)(x:Val):Option Res:=match x with| .tup vs=>(vs[i]?).map fun v=>{v}|_=>none
@[go_sem] theorem bN0 {i:Nat}{x:Opd}:cZ d g en get (.ext i x)=bFt i (get x):=(rfl)
@[go_sem] theorem bLp {i:Nat}:bFt i (.tup vs)=(sG vs i).map fun v=>{v}:=(rfl)
def bD0 (off:Nat)(x:Val):Option Res:=match x with
  | .fp cs o=>some {v:= .fp cs (o+off)}
  | .ptr k o=>some {v:= .ptr k (o+off)}
  | .ep k i o=>some {v:= .ep k i (o+off)}
  |_=>none
@[go_sem] theorem bPq {x:Opd}:cZ d g en get (.fa off x)=bD0 off (get x):=(rfl)
@[go_sem] theorem bPr {o:Nat}{cs:List Val}:bD0 off (.fp cs o)=some {v:= .fp cs (o+off)}:=(rfl)
@[go_sem] theorem bN1 {o:Nat}{k:Key}:bD0 off (.ptr k o)=some {v:= .ptr k (o+off)}:=(rfl)
@[go_sem] theorem bPs {o i:Nat}{k:Key}:bD0 off (.ep k i o)=some {v:= .ep k i (o+off)}:=(rfl)
def mA (size:Nat)(en:En)(x i:Val):Option Res:=match i with
  | .int _ j=>
   match x with
   | .fz xs| .cl xs=>if 0<=j then match xs[j.toNat]? with
     |some y=>if y.cells.length=size then some {v:= .fp y.cells 0}else none
     |none=>none else none
   | .bl k off len=>match en k with
    |some (.blk sz _ _)=>if 0<=j/\ j<len/\ sz=size then some {v:= .ep k (off+j.toNat) 0,rs:=[.val k]}else none
    |_=>none
   |_=>none
  |_=>none
@[go_sem] theorem bPt {x i:Opd}:cZ d g en get (.ia size x i)=mA size en (get x) (get i):=by
 simp only[cZ,eval,mA];cases get i<;>rfl
theorem bJ5 {y:Val}(h:xs[j]?=some y)(hs:y.cells.length=size):mA size en (.fz xs) (.int k j)=some {v:= .fp y.cells 0}:=by
 simp[mA,h,hs]
@[go_sem] theorem aUj {α:Type}{f:α->Val}{l:List α}(h:j<l.length)(hs:((f l[j]).cells.length==size)=true):mA size en (.fz (l.map f)) (.int k j)=some {v:= .fp (f l[j]).cells 0}:=
 bJ5 (by simp[h]) (by simpa using hs)
@[go_sem] theorem bIo {len:Nat}{ps:List (Nat×Opd)}:cZ d g en get (.bslice len size z ps)=
  if len*size<=16777216 then
   match cP (fun p=>match snapD 8 en (get p.2)with|some r=>some ((p.1,r.1.wk1),r.2)|none=>none) ps with
   |some ps=>match gL (List.replicate len (mL size z false)) size (ps.map (·.1))with
    |some xs=>some {v:= .cl xs,ws:=(ps.flatMap (·.2)).map .frz,rs:=(ps.flatMap (·.2)).map .val}
    |none=>none
   |none=>none
  else none:=(rfl)
def aAn (mx:Bool)(xs:List Val):Option Res:=match xs with
  |[.int j a,.int k b]=>if j=k then some {v:= .int j (if mx then(if b>a then b else a)else(if b<a then b else a))}else none
  |_=>none
@[go_sem] theorem bIp {mx:Bool}{xs:List Opd}:cZ d g en get (.minmax mx xs)=aAn mx (xs.map get):=(rfl)
@[go_sem] theorem bPu {a b:Int}:aAn true [.int k a,.int k b]=some {v:= .int k (max a b)}:=by
 simp only[aAn,if_true,bQi,Res.mk.injEq,Val.int.injEq,true_and,and_true];omega
@[go_sem] theorem bPv {a b:Int}:aAn false [.int k a,.int k b]=some {v:= .int k (min a b)}:=by
 simp only[aAn,if_true,bQm,if_false,bQi,Res.mk.injEq,Val.int.injEq,true_and,and_true];omega
def aEh (x:Val):Option Res:=match x with
  | .fp cs off=>some {v:= .fp cs off}
  | .ptr k off=>some {v:= .ptr k off}
  | .ep k i off=>some {v:= .ep k i off}
  | .fn f a b=>some {v:= .fn f a b}
  | .ifc t v=>some {v:= .ifc t v}
  |_=>none
@[go_sem] theorem bJ6 {x:Opd}:cZ d g en get (.nilck x)=aEh (get x):=(rfl)
@[go_sem] theorem bJ7 {cs:List Val}{o:Nat}:aEh (.fp cs o)=some {v:= .fp cs o}:=(rfl)
@[go_sem] theorem bIq {k:Key}{o:Nat}:aEh (.ptr k o)=some {v:= .ptr k o}:=(rfl)
@[go_sem] theorem bJ8 {b:List Val}:aEh (.fn f a b)=some {v:= .fn f a b}:=(rfl)
@[go_sem] theorem bIr :aEh (.ifc t v)=some {v:= .ifc t v}:=(rfl)
end
@[go_sem] theorem bIs :gL xs size []=some xs:=(rfl)
@[go_sem] theorem bHe {i:Nat}{rest:List (Nat×Val)}(h1:v.one=true)(h2:v.cells.length=size)(h3:i<xs.length):gL xs size ((i,v)::rest)=gL (xs.set i v) size rest:=by
 simp only[gL,h1,h2,h3,and_self,if_true]
@[go_sem] theorem bPw {z:Val}:List.replicate 0 z=[]:=(rfl)
@[go_sem] theorem bPx {z:Val}:List.replicate 1 z=[z]:=(rfl)
@[go_sem] theorem bPy {z:Val}:List.replicate 2 z=[z,z]:=(rfl)
@[go_sem] theorem bPz {z:Val}:List.replicate 3 z=[z,z,z]:=(rfl)
@[go_sem] theorem bP0 {z:Val}:List.replicate 4 z=[z,z,z,z]:=(rfl)
@[go_sem] theorem bP1 {z:Val}:List.replicate 5 z=[z,z,z,z,z]:=(rfl)
@[go_sem] theorem bJ9 {cs:List Val}:sF cs []=some cs:=(rfl)
@[go_sem] theorem bIt {cs:List Val}{rest:List (Nat×Nat×Val)}(h1:v.one=true)(h2:v.cells.length=size)(h3:off+size<=cs.length):sF cs ((off,size,v)::rest)=sF (setCells cs off v.cells) rest:=by
 simp only[sF,h1,h2,h3,and_self,if_true]
@[go_sem] theorem bLq {cs:List Val}:setCells cs off []=cs:=(rfl)
@[go_sem] theorem bKa {cs:List Val}:setCells cs off (v::vs)=setCells (cs.set off v) (off+1) vs:=(rfl)
attribute [go_sem] bSk bSl
@[go_sem] theorem bN2 {j:Int}:mA size en (.cl xs) (.int k j)=if 0<=j then(match sG xs j.toNat with|some y=>if y.cells.length=size then some {v:= .fp y.cells 0}else none|none=>none)else none:=(rfl)
section
variable {a b:Int}
@[go_sem] theorem bLr :cX .add .num (.int k a) (.int k b)=some (.int k (k.wrap (a+b))):=by simp[cX,tQ]
@[go_sem] theorem bLs :cX .sub .num (.int k a) (.int k b)=some (.int k (k.wrap (a-b))):=by simp[cX,tQ]
@[go_sem] theorem bLt :cX .mul .num (.int k a) (.int k b)=some (.int k (k.wrap (a*b))):=by simp[cX,tQ]
@[go_sem] theorem bLu :cX .quo .num (.int k a) (.int k b)=if b=0 then none else some (.int k (k.wrap (a.tdiv b))):=by simp[cX,tQ]
@[go_sem] theorem bLv :cX .rem .num (.int k a) (.int k b)=if b=0 then none else some (.int k (a.tmod b)):=by simp[cX,tQ]
@[go_sem] theorem bLw :cX .lss .num (.int k a) (.int k b)=some (.bool (decide (a<b))):=by simp[cX,tQ]
@[go_sem] theorem bLx :cX .leq .num (.int k a) (.int k b)=some (.bool (decide (a<=b))):=by simp[cX,tQ]
@[go_sem] theorem bLy :cX .gtr .num (.int k a) (.int k b)=some (.bool (decide (b<a))):=by simp[cX,tQ]
@[go_sem] theorem bLz :cX .geq .num (.int k a) (.int k b)=some (.bool (decide (b<=a))):=by simp[cX,tQ]
@[go_sem] theorem bL0 :cX .eql .num (.int k a) (.int k b)=some (.bool (decide (a=b))):=by
 simp only[cX,pE,if_true,bRd];congr 2
@[go_sem] theorem bL1 :cX .neq .num (.int k a) (.int k b)=some (.bool (!decide (a=b))):=by
 simp only[cX,pE,if_true,bRd];congr 3
@[go_sem] theorem bL2 {x y:Bool}:cX .eql .bool (.bool x) (.bool y)=some (.bool (x==y)):=(rfl)
@[go_sem] theorem bL3 {x y:Bool}:cX .neq .bool (.bool x) (.bool y)=some (.bool (!(x==y))):=(rfl)
@[go_sem] theorem bL4 {x y:ByteArray}:cX .eql .str (.str x) (.str y)=some (.bool (x.toList==y.toList)):=(rfl)
@[go_sem] theorem bL5 {x y:ByteArray}:cX .neq .str (.str x) (.str y)=some (.bool (!(x.toList==y.toList))):=(rfl)
end
@[go_sem] theorem fN :W.applyAll en []=en:=(rfl)
@[go_sem] theorem kL {w:W}:W.applyAll en (w::ws)=W.applyAll (w.apply en) ws:=(rfl)
@[go_sem] theorem xE {k:Key}:(W.ent k e).apply en=en.set k e:=(rfl)
theorem bKb (cs:List Val)(off:Nat):(if off+1<=cs.length then some ((cs.drop off).take 1)else none)=(cs[off]?).map fun v=>[v]:=by
 by_cases h:off<cs.length
 ·rw[if_pos (by omega),bRq h,bRt h];rfl
 ·rw[if_neg (by omega),List.getElem?_eq_none (by omega)];rfl
theorem bKc (cs:List Val)(off:Nat)(rs:List R):(if off+1<=cs.length then some ((cs.drop off).take 1,rs)else none)=(sG cs off).map fun v=>([v],rs):=by
 have:=bKb cs off;unfold sG
 by_cases h:off+1<=cs.length
 ·rw[if_pos h]at this⊢;cases hc:cs[off]? with
  |none=>rw[hc]at this;cases this
  |some v=>rw[hc]at this;simp only[Option.map,bQi]at this⊢;rw[this]
 ·rw[if_neg h]at this⊢;cases hc:cs[off]? with
  |none=>rfl
  |some v=>rw[hc]at this;cases this
@[go_sem] theorem bKd {cs:List Val}:qZ en (.fp cs off) 1=(sG cs off).map fun v=>([v],[]):=bKc cs off []
@[go_sem] theorem bKe {k:Key}{n:Nat}:qZ en (.ptr k off) n=(match en k with|some (.box cs _)=>if off+n<=cs.length then some ((cs.drop off).take n,[.cells k off n])else none|_=>none):=(rfl)
@[go_sem] theorem bL6 {cs:List Val}{n:Nat}:qZ en (.fp cs off) n=if off+n<=cs.length then some ((cs.drop off).take n,[])else none:=(rfl)
@[go_sem] theorem bD1 {α β:Type}{f:α->β}{x:α}:(some x).map f=some (f x):=(rfl)
@[go_sem] theorem bD2 {β:Type}{f:α->β}:(none:Option α).map f=none:=(rfl)
attribute [go_sem] bSm List.drop_succ_cons bQq bQs bQu bQz List.take_nil List.drop_nil
section
variable {R:Ex->St->Prop}
@[congr] theorem bKf {c:aY}:Wp L c st R=Wp L c st R:=(rfl)
@[go_sem] theorem bKg {c:aY}:Wp L c (start args) R=Wp L c ⟨fun i=>args.getD i (.tup []),fun _=>none,fun _ _=>0⟩ R:=(rfl)
@[go_sem] theorem bL7 :Wp L .skip st R=R .normal st:=(rfl)
@[go_sem] theorem bN3 :Wp L (.ops l) st R=gD L l st (R .normal):=(rfl)
@[go_sem] theorem bL8 :Wp L (.draw l []) st R=gD L l st (R .normal):=by simp[Wp]
theorem qW {a b:aY}:Wp L (.seq a b) st R=Wp L a st fun e st'=>match e with
  | .normal=>Wp L b st' R
  | .exit i=>R (.exit i) st'
  | .ret=>R .ret st'
  | .panic v=>R (.panic v) st':=(rfl)
def aJu (v:Val)(a b:Prop):Prop:=match v with| .bool t=>if t=true then a else b|_=>False
@[go_sem] theorem bL9 {x:Opd}{a b:aY}:Wp L (.cond x a b) ⟨fr,en,cnt⟩ R=aJu (St.get fr x) (Wp L a ⟨fr,en,cnt⟩ R) (Wp L b ⟨fr,en,cnt⟩ R):=(rfl)
@[congr] theorem bFu {a b:Prop}(h:v=v'):aJu v a b=aJu v' a b:=by rw[h]
@[go_sem] theorem bMa {a b:Prop}:aJu (.bool true) a b=a:=(rfl)
@[go_sem] theorem bMb {a b:Prop}:aJu (.bool false) a b=b:=(rfl)
theorem aW {t:Bool}{a b:Prop}(h:t=true->a)(k:t=false->b):aJu (.bool t) a b:=by cases t<;>first|exact h rfl|exact k rfl
@[go_sem] theorem bKh {b:aY}:Wp L (.block id b) st R=Wp L b st fun e st'=>match e with
  | .exit id'=>if id'=id then R .normal st' else R (.exit id') st'
  | .normal=>R .normal st'
  | .ret=>R .ret st'
  | .panic v=>R (.panic v) st':=(rfl)
@[go_sem] theorem bN4 :Ex.calm .normal=true:=(rfl)
@[go_sem] theorem bN5 :Ex.calm .ret=true:=(rfl)
@[go_sem] theorem bN6 :Ex.calm (.exit id)=true:=(rfl)
@[go_sem] theorem bMc :Wp L (.exit id) st R=R (.exit id) st:=(rfl)
@[go_sem] theorem bN7 :Wp L .ret st R=R .ret st:=(rfl)
end
attribute [go_sem] Ex.ends bAq oP zI aVu and_true bTi List.getD_cons_succ List.getD_nil bRj bQ1 bRk bRo bS2 bS5 bSn
 not_false_eq_true not_true_eq_false ne_eq bRd bSs List.all_nil true_and and_true bRy bQ9 bRp bQ7 if_true if_false bQm bQ0 bQ5 bRg bR5
section
variable {i:Int}{x:ByteArray}
@[go_sem] theorem bN8 :Val.wk (.int k i)= .int k i:=(rfl)
@[go_sem] theorem bMd :Val.wk (.bool b)= .bool b:=(rfl)
@[go_sem] theorem bN9 :Val.wk (.str x)= .str x:=(rfl)
@[go_sem] theorem bP2 :Val.wk (.fz xs)= .fz xs:=(rfl)
@[go_sem] theorem bP3 :Val.wk (.cl xs)= .fz xs:=(rfl)
@[go_sem] theorem bP4 :Val.wk (.fp xs m)= .fp xs m:=(rfl)
@[go_sem] theorem bP5 :Val.wk (.fn m xs ys)= .fn m xs ys:=(rfl)
@[go_sem] theorem bMe :Val.wk .nili= .nili:=(rfl)
@[go_sem] theorem bMf :Val.wk .nilp= .nilp:=(rfl)
@[go_sem] theorem bOa :Val.wk (.ifc m v)= .ifc m v:=(rfl)
@[go_sem] theorem bP6 :Val.wk (.fm xs ys)= .fm xs ys:=(rfl)
@[go_sem] theorem bOb :Val.wk (.agg xs)= .agg (xs.map Val.wk0):=(rfl)
@[go_sem] theorem bOc :Val.wk (.tup xs)= .tup (xs.map Val.wk1):=(rfl)
@[go_sem] theorem bMg :Val.wk1 (.int k i)= .int k i:=(rfl)
@[go_sem] theorem bKi :Val.wk1 (.bool b)= .bool b:=(rfl)
@[go_sem] theorem bMh :Val.wk1 (.str x)= .str x:=(rfl)
@[go_sem] theorem bOd :Val.wk1 (.fz xs)= .fz xs:=(rfl)
@[go_sem] theorem bOe :Val.wk1 (.cl xs)= .fz xs:=(rfl)
@[go_sem] theorem bOf :Val.wk1 (.fp xs m)= .fp xs m:=(rfl)
@[go_sem] theorem bOg :Val.wk1 (.fn m xs ys)= .fn m xs ys:=(rfl)
@[go_sem] theorem bKj :Val.wk1 .nili= .nili:=(rfl)
@[go_sem] theorem bKk :Val.wk1 .nilp= .nilp:=(rfl)
@[go_sem] theorem bKl :Val.wk1 .nilm= .nilm:=(rfl)
@[go_sem] theorem bMi :Val.wk1 (.ifc m v)= .ifc m v:=(rfl)
@[go_sem] theorem bOh :Val.wk1 (.fm xs ys)= .fm xs ys:=(rfl)
@[go_sem] theorem bMj :Val.wk1 (.agg xs)= .agg (xs.map Val.wk0):=(rfl)
@[go_sem] theorem bMk :Val.wk0 (.int k i)= .int k i:=(rfl)
@[go_sem] theorem bKm :Val.wk0 (.bool b)= .bool b:=(rfl)
@[go_sem] theorem bMl :Val.wk0 (.str x)= .str x:=(rfl)
@[go_sem] theorem bOi :Val.wk0 (.fz xs)= .fz xs:=(rfl)
@[go_sem] theorem bOj :Val.wk0 (.cl xs)= .fz xs:=(rfl)
@[go_sem] theorem bOk :Val.wk0 (.fp xs m)= .fp xs m:=(rfl)
@[go_sem] theorem bOl :Val.wk0 (.fn m xs ys)= .fn m xs ys:=(rfl)
@[go_sem] theorem bKn :Val.wk0 .nili= .nili:=(rfl)
@[go_sem] theorem bKo :Val.wk0 .nilp= .nilp:=(rfl)
@[go_sem] theorem bMm :Val.wk0 (.ifc m v)= .ifc m v:=(rfl)
@[go_sem] theorem bKp :Val.flat (.int k i)=true:=(rfl)
@[go_sem] theorem bIu :Val.flat (.bool b)=true:=(rfl)
@[go_sem] theorem bKq :Val.flat (.str x)=true:=(rfl)
@[go_sem] theorem bIv :Val.cells (.agg xs)=xs:=(rfl)
@[go_sem] theorem bIw :Val.cells (.int k i)=[.int k i]:=(rfl)
@[go_sem] theorem bHf :Val.cells (.bool b)=[.bool b]:=(rfl)
@[go_sem] theorem bIx :Val.cells (.str x)=[.str x]:=(rfl)
@[go_sem] theorem bKr :Val.cells (.fz xs)=[.fz xs]:=(rfl)
@[go_sem] theorem bMn :Val.one (.int k i)=true:=(rfl)
@[go_sem] theorem bKs :Val.one (.bool b)=true:=(rfl)
@[go_sem] theorem bMo :Val.one (.str x)=true:=(rfl)
@[go_sem] theorem bOm :Val.one (.fz xs)=true:=(rfl)
@[go_sem] theorem pZ :Val.one (.cl xs)=true:=(rfl)
@[go_sem] theorem bMp :Val.one (.agg xs)=true:=(rfl)
end
section
variable {n :Nat}
@[go_sem] theorem bMq :snapD (n+1) en (.bool b)=some (.bool b,[]):=(rfl)
@[go_sem] theorem bOn {i:Int}:snapD (n+1) en (.int k i)=some (.int k i,[]):=(rfl)
@[go_sem] theorem bOo :snapD (n+1) en (.str s)=some (.str s,[]):=(rfl)
@[go_sem] theorem bMr :snapD (n+1) en .nilp=some (.nilp,[]):=(rfl)
@[go_sem] theorem bMs :snapD (n+1) en .nilm=some (.nilm,[]):=(rfl)
@[go_sem] theorem bMt :snapD (n+1) en .nilf=some (.nilf,[]):=(rfl)
@[go_sem] theorem bMu :snapD (n+1) en .nili=some (.nili,[]):=(rfl)
@[go_sem] theorem bP7 :snapD (n+1) en (.fz xs)=some (.fz xs,[]):=(rfl)
@[go_sem] theorem bP8 :snapD (n+1) en (.cl xs)=some (.cl xs,[]):=(rfl)
@[go_sem] theorem bP9 :snapD (n+1) en (.fp xs off)=some (.fp xs off,[]):=(rfl)
@[go_sem] theorem bQa :snapD (n+1) en (.fm xs ys)=some (.fm xs ys,[]):=(rfl)
@[go_sem] theorem bOp {cs:List Val}:snapD (n+1) en (.agg cs)=(match cP (snapD n en) cs with|some rs=>some (.agg (rs.map (·.1)),rs.flatMap (·.2))|none=>none):=(rfl)
@[go_sem] theorem bOq {cs:List Val}:snapD (n+1) en (.tup cs)=(match cP (snapD n en) cs with|some rs=>some (.tup (rs.map (·.1)),rs.flatMap (·.2))|none=>none):=(rfl)
@[go_sem] theorem bOr {k:Key}:snapD (n+1) en (.ptr k off)=(match en k with|some (.box cs _)=>(match cP (snapD n en) cs with|some rs=>some (.fp (rs.map (·.1)) off,k::rs.flatMap (·.2))|none=>none)|_=>none):=(rfl)
@[go_sem] theorem bQb {k:Key}{len:Nat}:snapD (n+1) en (.bl k off len)=(match en k with|some (.blk _ xs _)=>if k.deep=true then none else if off+len<=xs.length then some (.fz ((xs.drop off).take len),[k])else none|_=>none):=(rfl)
@[go_sem] theorem bMv {n:Nat}(h: ¬n=3):Key.deep ⟨n,t,g⟩=false:=by simp[Key.deep,h]
@[go_sem] theorem aF8 :Key.deep ⟨0,t,g⟩=false:=(rfl)
end
theorem bQ {L:bG}{b:aY}{Q:Ex->St->Prop}(n:Nat)(I:Nat->St->Prop)(k0:Nat)(hle:k0<=n)(h0:I k0 st)
  (hr: ∀k st,k<=n->I k st->Wp L b st fun e st'=>match e with
   | .normal=>k<n/\ I (k+1) st'
   | .exit i=>Q (.exit i) st'
   | .ret=>Q .ret st'
   | .panic v=>Q (.panic v) st'):Wp L (.loop b) st Q:=
 wp_loop (fun k st=>k<=n/\ I k st) (fun k=>n-k) k0 ⟨hle,h0⟩ fun k st ⟨hk,hI⟩=>wp_mono b (hr k st hk hI) fun e st' h=>by
  cases e with
  |normal=>exact⟨k+1,⟨by omega,h.2⟩,by omega⟩
  |exit i=>exact h
  |ret=>exact h
  |panic v=>exact h
theorem aV {n:Int}(h: -9223372036854775808<=n/\ n<=9223372036854775807):IntKind.i64.wrap n=n:=IntWalk.i64_in n h
def Few (n:Nat):Prop:=n<=9223372036854775807
@[go_sem] theorem aR {k n:Nat}(h:k<n)(hn:Few n):IntKind.i64.wrap ((k:Int)+1)=((k+1:Nat):Int):=by
 unfold Few at hn;rw[aV (by omega)];rfl
attribute [go_sem] Int.ofNat_lt Int.ofNat_le Int.ofNat_inj decide_true decide_false bQl
@[go_sem] theorem eq2 {a b c d:Int}:cX .eql (.agg [.num,.num]) (.agg [.int k a,.int k b]) (.agg [.int k c,.int k d])=some (.bool (decide (a=c)&&decide (b=d))):=by
 simp only[cX,pE,bQu,bQz,and_self,if_true,jJ,yB];have e:(a==c)=decide (a=c):=by by_cases h:a=c<;>simp[h]
 have e':(b==d)=decide (b=d):=by by_cases h:b=d<;>simp[h]
 rw[e,e']
 by_cases h:a=c<;>by_cases h':b=d<;>simp[h,h']
@[go_sem] theorem ne2 {a b c d:Int}:cX .neq (.agg [.num,.num]) (.agg [.int k a,.int k b]) (.agg [.int k c,.int k d])=some (.bool (!(decide (a=c)&&decide (b=d)))):=by
 simp only[cX,pE,bQu,bQz,and_self,if_true,jJ,yB];have e:(a==c)=decide (a=c):=by by_cases h:a=c<;>simp[h]
 have e':(b==d)=decide (b=d):=by by_cases h:b=d<;>simp[h]
 rw[e,e']
 by_cases h:a=c<;>by_cases h':b=d<;>simp[h,h']
end
def aRj (l:List Int):Val:= .fz (l.map (.int .i64))
structure aD where
 kind:Int
 n:Int
 deriving DecidableEq,Inhabited
def aD.enc (v:aD):Val:= .agg [.int .i64 v.kind,.int .i64 v.n]
structure aB where
 node:Int
 env:List aD
 vals:List aD
 deriving DecidableEq,Inhabited
def aB.enc (f:aB):Val:= .agg [.int .i64 f.node,.fz (f.env.map aD.enc),.fz (f.vals.map aD.enc)]
structure aN where
 form:Int
 n:Int
 vals:List aD
 frames:List aB
 deriving DecidableEq,Inhabited
def aN.enc (o:aN):Val:= .agg [.int .i64 o.form,.int .i64 o.n,.fz (o.vals.map aD.enc),.fz (o.frames.map aB.enc)]
structure bL where
 port:Int
 n:Int
 deriving DecidableEq,Inhabited
def bL.enc (o:bL):Val:= .agg [.int .i64 o.port,.int .i64 o.n]
structure aA where
 objs:List aN
 tasks:List Int
 outs:List bL
 ins:List Int
 used:Int
 deriving DecidableEq,Inhabited
def aA.cells (w:aA):List Val:=[.fz (w.objs.map aN.enc),aRj w.tasks,.fz (w.outs.map bL.enc),aRj w.ins,.int .i64 w.used]
structure aJv where
 world:aA
 ages:List Int
 marks:List Int
 cycle:Int
 deriving DecidableEq,Inhabited
def aJv.cells (s:aJv):List Val:=s.world.cells++[aRj s.ages,aRj s.marks,.int .i64 s.cycle]
structure cV where
 name:ByteArray
 args:Int
 deriving DecidableEq,Inhabited
def cV.enc (c:cV):Val:= .agg [.str c.name,.int .i64 c.args]
inductive Pat where
 |mk (form n:Int) (text:ByteArray) (parts:List Pat)
 deriving Inhabited
mutual
def Pat.enc :Pat->Val
 | .mk f n t ps=> .agg [.int .i64 f,.int .i64 n,.str t,.fz (Pat.encL ps)]
def Pat.encL :List Pat->List Val
 |[]=>[]
 |p::ps=>p.enc::Pat.encL ps
end
theorem Pat.encL_map : ∀ps:List Pat,Pat.encL ps=ps.map Pat.enc
 |[]=>rfl
 |p::ps=>by rw[Pat.encL,Pat.encL_map ps];rfl
def Pat.form :Pat->Int| .mk f _ _ _=>f
def Pat.n :Pat->Int| .mk _ n _ _=>n
def Pat.text :Pat->ByteArray| .mk _ _ t _=>t
def Pat.parts :Pat->List Pat| .mk _ _ _ l=>l
theorem Pat.enc_eq (p:Pat):p.enc= .agg [.int .i64 p.form,.int .i64 p.n,.str p.text,.fz (p.parts.map Pat.enc)]:=by
 cases p;simp only[Pat.enc,Pat.encL_map,Pat.form,Pat.n,Pat.text,Pat.parts]
structure aK where
 op:Int
 n:Int
 kids:List Int
 pats:List Pat
 deriving Inhabited
def aK.enc (o:aK):Val:= .agg [.int .i64 o.op,.int .i64 o.n,aRj o.kids,.fz (o.pats.map Pat.enc)]
structure aF where
 nodes:List aK
 funs:List Int
 main:Int
 cons:List cV
 deriving Inhabited
def aF.cells (p:aF):List Val:=[.fz (p.nodes.map aK.enc),aRj p.funs,.int .i64 p.main,.fz (p.cons.map cV.enc)]
attribute [go_sem] aD.enc aB.enc aN.enc bL.enc cV.enc aK.enc Pat.enc_eq aA.cells aF.cells aJv.cells aRj
@[match_pattern] abbrev Val.i (n:Int):Val:= .int .i64 n
abbrev Val.is (l:List Int):Val:= .fz (l.map (.int .i64))
abbrev aA.cs (w:aA):List Val:=[.fz (w.objs.map aN.enc),.is w.tasks,.fz (w.outs.map bL.enc),.is w.ins,.int .i64 w.used]
abbrev aF.cs (p:aF):List Val:=[.fz (p.nodes.map aK.enc),.is p.funs,.int .i64 p.main,.fz (p.cons.map cV.enc)]
def lP (L:bG):List aL->St->(St->Prop)->Prop
 |[],st,Q=>Q st
 |o::l,st,Q=>oJ L st o fun st' r=>r.ws=[]/\ r.bump=false/\ r.mem=none/\ lP L l st' Q
theorem jF {L:bG}{o:aL}{K K':St->Res->Prop}(h:oJ L st o K)(hk: ∀s r,K s r->K' s r):oJ L st o K':=by
 have wop: ∀{d g:Nat} {en:En} {get:Opd->Val} {op:LOp} {K K':Res->Prop},WOp L d g en get op K->(∀r,K r->K' r)->WOp L d g en get op K':=by
  intro d g en get op K K' h hk;have oth:(match cZ d g en get op with|some r=>K r|none=>False)->(match cZ d g en get op with|some r=>K' r|none=>False):=by
   intro h;split<;>rename_i hr<;>simp only[hr]at h;exact hk _ h
  cases op with
  |call f args=>
   simp only[WOp]at h⊢
   split at h
   ·split at h
    ·obtain⟨r,h1,h2⟩:=h;exact⟨r,h1,hk _ h2⟩
    ·exact h.elim
   ·exact h.elim
  |_=>exact oth h
 unfold oJ at h⊢;split
 ·rename_i hw;simp only[hw]at h;split
  ·rename_i f args hop;simp only[hop]at h;exact h.mono fun _ _ _=>hk _ _
  ·rename_i op hne;have h':WOp L (o.dst.getD 0) (st.cnt 0 (o.dst.getD 0)) st.en (St.get st.fr) o.op fun r=>(r.bump&&o.dst.isNone)=false/\
     K ⟨gZ st.fr o.dst r.v,W.applyAll st.en r.ws,if r.bump then aC st.cnt 0 (o.dst.getD 0) (st.cnt 0 (o.dst.getD 0)+1)else st.cnt⟩ r:=by
    split at h
    ·rename_i f a hx;exact absurd hx (hne f a)
    ·exact h
   exact wop h' fun r ⟨h1,h2⟩=>⟨h1,hk _ _ h2⟩
 ·rename_i hw;simp only[hw]at h;exact hk _ _ h
 ·rename_i hw;simp only[hw]at h
def bAw (rs:List Res):Prop:= ∀r∈rs,r.ws=[]/\ r.bump=false/\ r.mem=none
theorem aM7 {L:bG}: ∀(l:List aL) {st:St} {Q:St->Prop},lP L l st Q->rC L l st fun st' rs=>bAw rs/\ rs.length=l.length/\ Q st'
 |[],st,Q,h=>⟨fun _ hr=>by simp at hr,rfl,h⟩
 |o::l,st,Q,h=>by
  refine jF h fun s r ⟨h1,h2,h3,h4⟩=>?_
  have rec_: ∀(l:List aL) {st:St} {Q R:St->List Res->Prop},rC L l st Q->(∀s rs,Q s rs->R s rs)->rC L l st R:=by
   intro l
   induction l with
   |nil=>intro st Q R h k;exact k _ _ h
   |cons o l ih=>intro st Q R h k;exact jF h fun s r hs=>ih hs fun s rs hq=>k _ _ hq
  refine rec_ l (aM7 l h4) fun s rs ⟨k1,k2,k3⟩=>⟨fun x hx=>?_,by simp[k2],k3⟩
  rcases bRm.1 hx with rfl|hx
  ·exact⟨h1,h2,h3⟩
  ·exact k1 x hx
variable {pairs:List (Nat×Nat)}
theorem aAo {L:bG}{R:Ex->St->Prop}(hp:pairs.all (fun p=>decide (p.1<l.length)&&decide (p.2<l.length))=true)
  (h:lP L l st (R .normal)):Wp L (.draw l pairs) st R:=by
 simp only[Wp];have hr:=aM7 l h;split
 ·rename_i hpp;have: ∀(l:List aL) {st:St} {Q:St->List Res->Prop} {R:St->Prop},rC L l st Q->(∀s rs,Q s rs->R s)->gD L l st R:=by
   intro l
   induction l with
   |nil=>intro st Q R h k;exact k _ _ h
   |cons o l ih=>intro st Q R h k;exact jF h fun s r hs=>ih hs fun s rs hq=>k _ _ hq
  exact this l hr fun s rs h=>h.2.2
 ·have rec_: ∀(l:List aL) {st:St} {Q R:St->List Res->Prop},rC L l st Q->(∀s rs,Q s rs->R s rs)->rC L l st R:=by
   intro l
   induction l with
   |nil=>intro st Q R h k;exact k _ _ h
   |cons o l ih=>intro st Q R h k;exact jF h fun s r hs=>ih hs fun s rs hq=>k _ _ hq
  refine rec_ l hr fun s rs ⟨h1,h2,h3⟩=>⟨?_,h3⟩
  unfold dP
  refine bQp.2 fun p hpm=>?_
  have:=bQp.1 hp p hpm;simp only[bQj,bT8]at this;rw[bRq (by omega),bRq (by omega)]
  obtain⟨a1,a2,a3⟩:=h1 rs[p.1] (bQr _);obtain⟨b1,b2,b3⟩:=h1 rs[p.2] (bQr _);simp[aDt,a1,a3,b1,b3]
section
variable {L :bG}{Q:St->Prop}
@[congr] theorem bD3 :lP L l st Q=lP L l st Q:=(rfl)
@[go_sem] theorem bOs (st:St):lP L [] st Q=Q st:=(rfl)
def aHc (L:bG)(l:List aL)(dst:Option Nat)(fr:Nat->Val)(en:En)(cnt:Nat->Nat->Nat)(Q:St->Prop):Option Res->Prop
 |some r=>(r.bump&&dst.isNone)=false/\ r.ws=[]/\ r.bump=false/\ r.mem=none/\ lP L l ⟨gZ fr dst r.v,W.applyAll en r.ws,if r.bump then aC cnt 0 (dst.getD 0) (cnt 0 (dst.getD 0)+1)else cnt⟩ Q
 |none=>False
@[congr] theorem bFv {r:Option Res}(h:r=r'):aHc L l dst fr en cnt Q r=aHc L l dst fr en cnt Q r':=by rw[h]
@[go_sem] theorem bHg {rs:List R}:
  aHc L l dst fr en cnt Q (some ⟨v,[],rs,false,none,u⟩)=lP L l ⟨gZ fr dst v,en,cnt⟩ Q:=by simp[aHc,W.applyAll]
@[go_sem] theorem bHh :aHc L l dst fr en cnt Q none=False:=(rfl)
@[go_sem] theorem bQc (h:op.plain=true):lP L (⟨dst,op,none⟩::l) ⟨fr,en,cnt⟩ Q=aHc L l dst fr en cnt Q (cZ (dst.getD 0) (cnt 0 (dst.getD 0)) en (St.get fr) op):=by
 cases op<;>first|(simp[LOp.plain]at h;done)|rfl|(simp only[lP,oJ,wanted,WOp,aHc];rfl)
@[go_sem] theorem bAx :lP L (⟨dst,op,some (t,b)⟩::l) ⟨fr,en,cnt⟩ Q=
  pX (fr t) b (lP L (⟨dst,op,none⟩::l) ⟨fr,en,cnt⟩ Q) (lP L l ⟨gZ fr dst (.tup []),en,cnt⟩ Q):=by
 simp only[lP,oJ,wanted,pX]
 split<;>rename_i h
 ·split at h
  ·rename_i b' hb;simp only[bQi]at h;simp only[hb,h,if_true]
  ·cases h
  ·cases h
 ·split at h
  ·rename_i b' hb;simp only[bQi]at h;simp only[hb,h,bQm,if_false,true_and]
  ·rename_i hb;simp only[hb,true_and]
  ·cases h
 ·split at h
  ·cases h
  ·cases h
  ·rename_i h1 h2;split
   ·rename_i b' hb;exact absurd hb (h1 _)
   ·rename_i hb;exact absurd hb h2
   ·rfl
@[go_sem] theorem bMw {f:Opd}{args:List Opd}:lP L (⟨dst,.call f args,none⟩::l) ⟨fr,en,cnt⟩ Q=
  aCg L en (St.get fr f) (args.map (St.get fr)) fun r ks=>aHc L l dst fr en cnt Q (some (gV 0 (dst.getD 0) (cnt 0 (dst.getD 0)) r ks)):=by
 simp only[lP,oJ,wanted,WOp,aCg,aHb,aRh];cases St.get fr f<;>first|rfl|skip
end
section
variable {L :bG}{Q:St->Prop}
def aEi (m:Nat)(en:En)(a v:Val):Option Res:=
  if v.one=true/\ v.cells.length=m then
   match a with
   | .ptr k off=>match en k with
    |some (.box cs false)=>if off+m<=cs.length then some {v:= .tup [],ws:=[.cells k off v.cells],rs:=[.flag k]}else none
    |_=>none
   | .ep k i off=>match en k with
    |some (.blk _ xs false)=>match xs[i]? with
     |some y=>if off+m<=y.cells.length then
       if k.deep then none else
       match snapD 8 en v with
       |some (v',ks)=>if v'.one=true/\ v'.cells.length=m/\ ks.all (fun k'=>decide (k'≠k))=true then some {v:= .tup [],ws:=ks.map .frz++[.elem k i off v'.wk1.cells],rs:= .val k:: .flag k::ks.map .val}else none
       |none=>none
      else none
     |none=>none
    |_=>none
   |_=>none
  else none
@[go_sem] theorem bIy {a:Opd}:cZ d g en get (.store m a x)=aEi m en (get a) (get x):=(rfl)
@[go_sem] theorem bIz {k:Key}(h1:v.one=true)(h2:v.cells.length=m):aEi m en (.ptr k off) v=(match en k with
    |some (.box cs false)=>if off+m<=cs.length then some {v:= .tup [],ws:=[.cells k off v.cells],rs:=[.flag k]}else none
    |_=>none):=by simp[aEi,h1,h2]
@[go_sem] theorem bFw {k:Key}:(W.cells k off vs).apply en=(match en k with
  |some (.box cs f)=>en.set k (some (.box (setCells cs off vs) f))
  |_=>en):=(rfl)
def jY (str:Bool)(size:Nat)(en:En)(x:Val)(lo hi mx:Option Val):Option Res:=
  if str then
   match x,mx with
   | .str s,none=>match iR hi s.size s.size with
    |some h=>(iR lo 0 h).map fun l=>{v:= .str (s.extract l h)}
    |none=>none
   |_,_=>none
  else match x with
   | .fz xs=>match mx with
    |none=>match iR hi xs.length xs.length with
     |some h=>match iR lo 0 h with
      |some l=>if l=0 \/cT size xs=true then some {v:= .fz ((xs.take h).drop l)}else none
      |none=>none
     |none=>none
    |some m=>aIt size xs lo hi m
   | .cl xs=>match mx with
    |none=>match iR hi xs.length xs.length with
     |some h=>match iR lo 0 h with
      |some l=>if l=0 \/cT size xs=true then some {v:=if h=xs.length then .cl (xs.drop l)else .fz ((xs.take h).drop l)}else none
      |none=>none
     |none=>none
    |some m=>aIt size xs lo hi m
   | .bl k off len=>match mx with
    |none=>match iR hi len len with
     |some h=>match iR lo 0 h with
      |some l=>match en k with
       |some (.blk sz _ _)=>if l=0 \/sz=size then some {v:= .bl k (off+l) (h-l),rs:=[.val k]}else none
       |_=>none
      |none=>none
     |none=>none
    |some _=>none
   |_=>none
@[go_sem] theorem bI0 {str:Bool}{lo hi mx:Option Opd}:cZ d g en get (.slice str size x lo hi mx)=jY str size en (get x) (lo.map get) (hi.map get) (mx.map get):=by
 cases mx<;>cases str<;>(simp only[cZ,eval,jY,Option.map])<;>cases get x<;>rfl
@[go_sem] theorem uH {a:Nat}:iR none a t=some a:=(rfl)
theorem tE {i a:Nat}(h:i<=t):iR (some (.int k (i:Int))) a t=some i:=by
 simp only[iR];rw[if_pos ⟨by omega,by omega⟩];simp
@[go_sem] theorem uI {i:Nat}(h:i<=xs.length):jY false size en (.fz xs) none (some (.int k (i:Int))) none=some {v:= .fz (xs.take i)}:=by
 simp[jY,tE h,uH]
theorem aJw {i:Nat}(h:i<=xs.length)(hs:cT size xs=true):jY false size en (.fz xs) (some (.int k (i:Int))) none none=some {v:= .fz (xs.drop i)}:=by
 simp[jY,tE h,uH,hs]
end
theorem aRk {l:List α}{k:Nat}(h:k<l.length)(p:α->Bool):(l.drop k).any p=(p l[k]||(l.drop (k+1)).any p):=by
 rw[bRt h,List.any_cons]
theorem fT {l:List α}{k:Nat}(h:k<l.length)(p:α->Bool):(l.drop k).all p=(p l[k]&&(l.drop (k+1)).all p):=by
 rw[bRt h,bSs]
variable {D:List Nat}
section
variable {L :bG}{Q:St->Prop}
def cR (en:En)(v:Val)(size:Nat)(xs:List Val)(D:List Nat):Prop:=
 (v= .cl []/\ xs=[]) \/ ∃t g f,v= .bl ⟨0,t,g⟩ 0 xs.length/\ en ⟨0,t,g⟩=some (.blk size xs f)/\ t∈D
theorem cR.nil (size:Nat)(D:List Nat):cR en (.cl []) size [] D:= .inl ⟨rfl,rfl⟩
theorem cR.keep (h:cR en v size xs D)(k: ∀t g,t∈D->en' ⟨0,t,g⟩=en ⟨0,t,g⟩):cR en' v size xs D:=by
 rcases h with h|⟨t,g,f,h1,h2,h3⟩
 ·exact .inl h
 ·exact .inr ⟨t,g,f,h1,by rw[k t g h3];exact h2,h3⟩
theorem cR.sub {D':List Nat}(h:cR en v size xs D)(k: ∀t∈D,t∈D'):cR en v size xs D':=by
 rcases h with h|⟨t,g,f,h1,h2,h3⟩
 ·exact .inl h
 ·exact .inr ⟨t,g,f,h1,h2,k t h3⟩
theorem cR.snap (h:cR en v size xs D)(n:Nat):
  ∃r ks,snapD (n+1) en v=some (r,ks)/\ r.wk0= .fz xs/\ r.wk1= .fz xs/\ r.wk= .fz xs/\ (r= .fz xs \/r= .cl xs):=by
 rcases h with⟨rfl,rfl⟩|⟨t,g,f,rfl,h2,_⟩
 ·exact⟨.cl [],[],rfl,rfl,rfl,rfl,.inr rfl⟩
 ·refine⟨.fz xs,[⟨0,t,g⟩],?_,rfl,rfl,rfl,.inl rfl⟩
  simp[snapD,h2,aF8]
theorem cR.len (h:cR en v size xs D):tP v=some xs.length:=by
 rcases h with⟨rfl,rfl⟩|⟨t,g,f,rfl,h2,_⟩<;>rfl
@[go_sem] theorem bKt :iN en (.cl xs)=some (xs,[]):=(rfl)
@[go_sem] theorem bAy :iN en (.fz xs)=some (xs,[]):=(rfl)
theorem jZ {y:Opd}{rs:List R}(hx:cR en (St.get fr x) size xs D)(hy:iN en (St.get fr y)=some (ys,rs))(h1:cT size ys=true)
  (hl:xs.length+ys.length<=16777216)
  (k: ∀v en' cnt',cR en' v size (xs++ys) (d::D)->(∀n t g,n≠0 \/(t≠d/\ t∉D)->en' ⟨n,t,g⟩=en ⟨n,t,g⟩)->(∀n t,t≠d->cnt' n t=cnt n t)->gD L l ⟨jD fr d v,en',cnt'⟩ Q):
  gD L (⟨some d,.append size x y,none⟩::l) ⟨fr,en,cnt⟩ Q:=by
 rw[aRg (by rfl)]
 simp only[bRc];rcases hx with⟨hv,rfl⟩|⟨t,g,f,hv,he,ht⟩
 ·simp only[cZ,eval,fL,hy,h1,if_true,hv]
  by_cases hys:ys.isEmpty=true
  ·have:ys=[]:=by simpa using hys
   subst this;simp only[List.isEmpty_nil,if_true,aM6,fN];exact k _ _ _ (.inl ⟨rfl,rfl⟩) (fun _ _ _ _=>rfl) (fun _ _ _=>rfl)
  ·rw[if_neg hys,if_pos ⟨by simpa using hl,rfl⟩]
   simp only[aF7,kL,fN,xE]
   refine k _ _ _ (.inr ⟨d,cnt 0 d,false,by simp,by simp[En.set],by simp⟩) (fun n t g h=>jE (fun he=>?_)) (fun n t h=>by simp[aC,h])
   injection he with h3 h4 h5
   rcases h with h|⟨h,_⟩
   ·exact h h3
   ·exact h h4
 ·simp only[cZ,eval,fL,aF8,hy,h1,if_true,hv,he];rw[if_pos ⟨.inl (by simp),hl,trivial,fun h=>by cases h⟩]
  simp only[aF7,kL,fN,xE]
  refine k _ _ _ (.inr ⟨d,cnt 0 d,f,by simp,?_,by simp⟩) (fun n t' g' h=>?_) (fun n t h=>by simp[aC,h])
  ·simp[En.set]
  ·have e1:(⟨n,t',g'⟩:Key)≠⟨0,d,cnt 0 d⟩:=by
    intro he;injection he with h3 h4 h5;rcases h with h|⟨h,_⟩
    ·exact h h3
    ·exact h h4
   have e2:(⟨n,t',g'⟩:Key)≠⟨0,t,g⟩:=by
    intro he;injection he with h3 h4 h5;subst h4;rcases h with h|⟨_,h⟩
    ·exact h h3
    ·exact h ht
   rw[jE e1,jE e2]
def aV8 (x i:Val):Option Res:=match x,i with
  | .str s,.int _ j=>if 0<=j then(s[j.toNat]?).map fun b=>{v:= .int .u8 b.toNat}else none
  |_,_=>none
@[go_sem] theorem bMx {i:Opd}:cZ d g en get (.ixs x i)=aV8 (get x) (get i):=(rfl)
theorem bD4 (h:j<s.data.toList.length):aV8 (.str s) (.int k (j:Int))=some {v:= .int .u8 (s.data.toList[j]).toNat}:=by
 have h':j<s.size:=by rw[bSt]at h;exact h
 have e:s[(j:Int).toNat]?=some (s.data.toList[j]):=by
  simp only[bRh];rw[getElem?_pos s j h'];exact congrArg some (by rw[ByteArray.getElem_eq_getElem_data,bTf])
 unfold aV8;simp only[if_pos (bS7 j),e,Option.map]
end
inductive dR (a b:Prop):Type
 |mk
section
variable {L :bG}{Q:St->Prop}{R:Ex->St->Prop}
def aF9 (v:Val)(a b:Prop)(_:dR a b):Prop:=aJu v a b
def nB (v:Val)(t:Bool)(a b:Prop)(_:dR a b):Prop:=pX v t a b
@[congr] theorem bD5 {a b:Prop}{k:dR a b}(h:v=v'):aF9 v a b k=aF9 v' a b k:=by rw[h]
@[congr] theorem bDa {t:Bool}{a b:Prop}{k:dR a b}(h:v=v'):nB v t a b k=nB v' t a b k:=by rw[h]
theorem qC {x:Opd}{a b:aY}:Wp L (.cond x a b) ⟨fr,en,cnt⟩ R=aF9 (St.get fr x) (Wp L a ⟨fr,en,cnt⟩ R) (Wp L b ⟨fr,en,cnt⟩ R) .mk:=(rfl)
theorem bAz {a b:Prop}{k:dR a b}:aF9 (.bool true) a b k=a:=(rfl)
theorem bA0 {a b:Prop}{k:dR a b}:aF9 (.bool false) a b k=b:=(rfl)
theorem aH {t:Bool}{a b:Prop}{k:dR a b}(h:t=true->a)(h':t=false->b):aF9 (.bool t) a b k:=aW h h'
theorem qG {t:Nat}{b:Bool}{op:LOp}:gD L (⟨dst,op,some (t,b)⟩::l) ⟨fr,en,cnt⟩ Q=
  nB (fr t) b (gD L (⟨dst,op,none⟩::l) ⟨fr,en,cnt⟩ Q) (gD L l ⟨gZ fr dst (.tup []),en,cnt⟩ Q) .mk:=bDz
theorem qS {t:Nat}{b:Bool}{op:LOp}:lP L (⟨dst,op,some (t,b)⟩::l) ⟨fr,en,cnt⟩ Q=
  nB (fr t) b (lP L (⟨dst,op,none⟩::l) ⟨fr,en,cnt⟩ Q) (lP L l ⟨gZ fr dst (.tup []),en,cnt⟩ Q) .mk:=bAx
theorem aXt {a b:Prop}{k:dR a b}:nB (.bool true) true a b k=a:=(rfl)
theorem aXu {a b:Prop}{k:dR a b}:nB (.bool false) false a b k=a:=(rfl)
theorem aXv {a b:Prop}{k:dR a b}:nB (.bool true) false a b k=b:=(rfl)
theorem aXw {a b:Prop}{k:dR a b}:nB (.bool false) true a b k=b:=(rfl)
theorem aXx {a b:Prop}{k:dR a b}{t:Bool}:nB (.tup []) t a b k=b:=(rfl)
theorem aJ {k:dR yes no}(h:b=b'->yes)(h':b=!b'->no):nB (.bool b) b' yes no k:=bC h h'
end
theorem aC5 {L:bG}{b:aY}{R:Ex->St->Prop}:Wp L (.seq (.ops l) b) st R=gD L l st fun st'=>Wp L b st' R:=(rfl)
theorem aBv {L:bG}{a b:aY}{Q:Ex->St->Prop}(M:St->Prop)
  (h:Wp L a st fun e st'=>match e with| .normal=>M st'| .exit i=>Q (.exit i) st'| .ret=>Q .ret st'| .panic v=>Q (.panic v) st') (k: ∀fr en cnt,M ⟨fr,en,cnt⟩->Wp L b ⟨fr,en,cnt⟩ Q):Wp L (.seq a b) st Q:=
 bG6 M h fun st' h'=>k _ _ _ h'
section
variable {L :bG}{Q:St->Prop}
def bHi (size:Nat)(z:List Val)(d g:Nat)(x y:Val):Option Res:=match x,y with
  | .int .i64 a,.int .i64 b=>if a=b/\ small a=true then
    some {v:= .bl ⟨0,d,g⟩ 0 a.toNat,ws:=[.ent ⟨0,d,g⟩ (some (.blk size (List.replicate a.toNat (mL size z false)) false))],bump:=true}else none
  |_,_=>none
@[go_sem] theorem bI1 {y:Opd}:cZ d g en get (.mklen size z x y)=bHi size z d g (get x) (get y):=(rfl)
theorem bA1 {n:Nat}(h:n<=16777216):bHi size z d g (.int .i64 (n:Int)) (.int .i64 (n:Int))=some {v:= .bl ⟨0,d,g⟩ 0 n,ws:=[.ent ⟨0,d,g⟩ (some (.blk size (List.replicate n (mL size z false)) false))],bump:=true}:=by
 have:small (n:Int)=true:=by simp[small];omega
 simp[bHi,this]
@[go_sem] theorem bFx :mL 1 [.bool b] false= .bool b:=(rfl)
@[go_sem] theorem bHj {n:Int}:mL 1 [.int k n] false= .int k n:=(rfl)
@[go_sem] theorem bQd {len:Nat}{k:Key}{kk:IntKind}{j:Int}:mA size en (.bl k off len) (.int kk j)=(match en k with
  |some (.blk sz _ _)=>if 0<=j/\ j<len/\ sz=size then some {v:= .ep k (off+j.toNat) 0,rs:=[.val k]}else none
  |_=>none):=(rfl)
@[go_sem] theorem bMy {k:Key}{i n:Nat}:qZ en (.ep k i off) n=(match en k with
  |some (.blk _ xs _)=>(match xs[i]? with
   |some x=>if off+n<=x.cells.length then some ((x.cells.drop off).take n,[.val k])else none
   |none=>none)
  |_=>none):=(rfl)
@[go_sem] theorem bKu {i:Nat}{k:Key}(h1:v.one=true)(h2:v.cells.length=m):aEi m en (.ep k i off) v=(match en k with
    |some (.blk _ xs false)=>(match xs[i]? with
     |some y=>if off+m<=y.cells.length then
       if k.deep=true then none else
       (match snapD 8 en v with
       |some (v',ks)=>if v'.one=true/\ v'.cells.length=m/\ ks.all (fun k'=>decide (k'≠k))=true then some {v:= .tup [],ws:=ks.map .frz++[.elem k i off v'.wk1.cells],rs:= .val k:: .flag k::ks.map .val}else none
       |none=>none)
      else none
     |none=>none)
    |_=>none):=by simp[aEi,h1,h2]
@[go_sem] theorem bHk {k:Key}{i:Nat}:(W.elem k i off vs).apply en=(match en k with
  |some (.blk sz xs f)=>(match xs[i]? with
   |some x=>en.set k (some (.blk sz (xs.set i (eP x off vs)) f))
   |none=>en)
  |_=>en):=(rfl)
@[go_sem] theorem bKv :eP (.bool b) 0 [v]=v:=(rfl)
@[go_sem] theorem bMz {n:Int}:eP (.int k n) 0 [v]=v:=(rfl)
attribute [go_sem] List.all_nil ite_self
end
variable {tbl:List (Nat×Nat)}
section
variable {L :bG}{n:Nat}
@[go_sem] theorem bQe {b:List Val}:snapD (n+1) en (.fn f a b)=(match cP (snapD n en) a with
   |some x=>(match cP (snapD n en) b with
    |some y=>some (.fn f (x.map (·.1)) (y.map (·.1)),x.flatMap (·.2)++y.flatMap (·.2))
    |none=>none)
   |none=>none):=(rfl)
@[go_sem] theorem bOt :snapD (n+1) en (.ifc t v)=(match snapD n en v with
   |some r=>some (.ifc t r.1,r.2)
   |none=>none):=(rfl)
@[go_sem] theorem g_m {i:Nat}:St.get fr (.m tbl i)=wS tbl (fr i):=(rfl)
@[go_sem] theorem bHl :wS tbl (.ifc t v)=(match tbl.lookup t with
  |some f=> .fn f [v] []
  |none=> .dead):=(rfl)
attribute [go_sem] List.lookup_cons
structure gG {α:Type} (L:bG) (enc:α->Val) (h:Val) (p:α->Bool) (l:List α):Prop where
 snap: ∀n en,4<=n->snapD n en h=some (h,[])
 wk:h.wk1=h
 one:h.one=true
 cells:h.cells=[h]
 call: ∀x∈l,∀en K,K (.bool (p x)) []->aCg L en h [enc x] K
theorem yS (h1:v.one=true)(h2:v.cells=[v]):pY d g 1 v=some {v:= .ptr ⟨0,d,g⟩ 0,ws:=[.ent ⟨0,d,g⟩ (some (.box [v] false))],bump:=true}:=by
 simp[pY,h1,h2]
end
def idxOf {α:Type}(p:α->Bool):List α->Nat->Int
 |[],_=> -1
 |x::l,k=>if p x then(k:Int)else idxOf p l (k+1)
theorem aGa {α:Type}(p:α->Bool): ∀(l:List α) (k:Nat),decide (0<=idxOf p l k)=l.any p
 |[],k=>by simp[idxOf]
 |x::l,k=>by
  simp only[idxOf,List.any_cons];split
  ·rename_i h;simp[h]
  ·rename_i h;rw[aGa p l (k+1)];simp[h]
variable {key:Key}
section
def bFy (d g:Nat)(x:Val):Option Res:=match x with
  | .str s=>some {v:= .it ⟨0,d,g⟩,ws:=[.ent ⟨0,d,g⟩ (some (.iter s 0))],bump:=true}
  |_=>none
@[go_sem] theorem bM0 :cZ d g en get (.rng x)=bFy d g (get x):=(rfl)
@[go_sem] theorem bM1 :bFy d g (.str s)=some {v:= .it ⟨0,d,g⟩,ws:=[.ent ⟨0,d,g⟩ (some (.iter s 0))],bump:=true}:=(rfl)
def bFz (en:En)(x:Val):Option Res:=match x with
  | .it k=>match en k with
   |some (.iter s pos)=>
    if pos<s.size then some {v:= .tup [.bool true,.int .i64 pos,.int .i32 (Utf8.decode s pos).1],ws:=[.ent k (some (.iter s (pos+(Utf8.decode s pos).2)))],rs:=[.val k,.flag k]}
    else some {v:= .tup [.bool false],rs:=[.val k]}
   |_=>none
  |_=>none
@[go_sem] theorem bM2 :cZ d g en get (.nxt x)=bFz en (get x):=(rfl)
@[go_sem] theorem bOu {k:Key}:bFz en (.it k)=(match en k with
   |some (.iter s pos)=>
    if pos<s.size then some {v:= .tup [.bool true,.int .i64 pos,.int .i32 (Utf8.decode s pos).1],ws:=[.ent k (some (.iter s (pos+(Utf8.decode s pos).2)))],rs:=[.val k,.flag k]}
    else some {v:= .tup [.bool false],rs:=[.val k]}
   |_=>none):=(rfl)
def bF0 (t:EqT)(en:En)(m k x:Val):Option Res:=match m with
  | .mp key=>match en key with
   |some (.map ks vs false)=>
    if tR t k&&x.flat1 then
     match findKey t k ks with
     |some (some i)=>some {v:= .tup [],ws:=[.ent key (some (.map (ks.set i k) (vs.set i x) false))],rs:=[.val key,.flag key]}
     |some none=>some {v:= .tup [],ws:=[.ent key (some (.map (ks++[k]) (vs++[x]) false))],rs:=[.val key,.flag key]}
     |none=>none
    else none
   |_=>none
  |_=>none
@[go_sem] theorem bKw {t:EqT}{m k:Opd}:cZ d g en get (.mput t m k x)=bF0 t en (get m) (get k) (get x):=(rfl)
@[go_sem] theorem bOv {t:EqT}{k x:Val}:bF0 t en (.mp key) k x=(match en key with
   |some (.map ks vs false)=>
    if(tR t k&&x.flat1)=true then
     (match findKey t k ks with
     |some (some i)=>some {v:= .tup [],ws:=[.ent key (some (.map (ks.set i k) (vs.set i x) false))],rs:=[.val key,.flag key]}
     |some none=>some {v:= .tup [],ws:=[.ent key (some (.map (ks++[k]) (vs++[x]) false))],rs:=[.val key,.flag key]}
     |none=>none)
    else none
   |_=>none):=(rfl)
@[go_sem] theorem bI2 :tR .str (.str s)=true:=(rfl)
@[go_sem] theorem bI3 {n:Int}:tR .num (.int k n)=true:=(rfl)
@[go_sem] theorem bHm :Val.flat1 (.bool b)=true:=(rfl)
@[go_sem] theorem bI4 {n:Int}:Val.flat1 (.int k n)=true:=(rfl)
@[go_sem] theorem bOw {k:Key}:aJt .map en (.mp k)=(match en k with
    |some (.map ks _ _)=>some {v:= .int .i64 ks.length,rs:=[.val k]}
    |_=>none):=(rfl)
def aC6 (t:EqT)(z:Val)(ok:Bool)(k:Val)(ks vs:List Val):Option Val:=match findKey t k ks with
    |some (some i)=>some (if ok then .tup [vs.getD i .dead,.bool true]else vs.getD i .dead)
    |some none=>some (if ok then .tup [z,.bool false]else z)
    |none=>none
def aRl (t:EqT)(z:Val)(ok:Bool)(en:En)(m k:Val):Option Res:=
  if tR t k then
   match m with
   | .mp key=>match en key with
    |some (.map ks vs _)=>(aC6 t z ok k ks vs).map fun v=>{v,rs:=[.val key]}
    |_=>none
   | .fm ks vs=>(aC6 t z ok k ks vs).map fun v=>{v}
   | .nilm=>(aC6 t z ok k [] []).map fun v=>{v}
   |_=>none
  else none
@[go_sem] theorem bKx {t:EqT}{z:Val}{m k:Opd}:cZ d g en get (.mget t z ok m k)=aRl t z ok en (get m) (get k):=(rfl)
@[go_sem] theorem bOx {t:EqT}{z:Val}{k:Val}(h:tR t k=true):aRl t z ok en (.mp key) k=(match en key with
    |some (.map ks vs _)=>(aC6 t z ok k ks vs).map fun v=>{v,rs:=[.val key]}
    |_=>none):=by simp[aRl,h]
@[go_sem] theorem bOy {t:EqT}{z:Val}{k:Val}{ks:List Val}(h:tR t k=true):aRl t z ok en (.fm ks vs) k=(aC6 t z ok k ks vs).map fun v=>{v}:=by simp[aRl,h]
end
theorem uJ {L:bG}{g:Opd}{a b:aY}{Q:Ex->St->Prop}{x y:List Val}(h:St.get fr g= .fn f x y)
  (H: ∀fr0 k,fr0=fr->k=jX cnt->WIn L (.fn f x y) [.yld k] (en.set k (some (.loop fr0 ps a b .ready))) (aC cnt 1 0 (cnt 1 0+1)) fun _ en' cnt'=>
   match en' k with
   |some (.loop _ _ _ _ .ready)=>Q .normal ⟨fr,en'.set k none,cnt'⟩
   |some (.loop _ _ _ _ (.done e))=>Q e ⟨fr,en'.set k none,cnt'⟩
   |_=>False):Wp L (.rangeF g ps a b) ⟨fr,en,cnt⟩ Q:=by
 simp only[Wp,h];exact .inl (H fr _ rfl rfl)
theorem aGb {L:bG}{g:Opd}{a b:aY}{Q:Ex->St->Prop}{x y:List Val}(h:St.get fr g= .fn f x y)
  (H: ∀fr0 k,fr0=fr->k=jX cnt->vC L f (x++[.yld k]++y) (en.set k (some (.loop fr0 ps a b .ready))) (aC cnt 1 0 (cnt 1 0+1)) fun v en' cnt'=>Q (.panic v) ⟨fr,en'.set k none,cnt'⟩):Wp L (.rangeF g ps a b) ⟨fr,en,cnt⟩ Q:=by
 simp only[Wp,h];exact .inr (H fr _ rfl rfl)
@[go_sem] theorem bHn :zX fr [] vs=fr:=(rfl)
@[go_sem] theorem bF1 {p:Nat}:zX fr (p::ps) (v::vs)=zX (jD fr p v) ps vs:=(rfl)
theorem aUk :jX cnt=⟨1,0,cnt 1 0⟩:=rfl
theorem cR.shape (h:cR en v size xs D):v.one=true/\ v.cells=[v]:=by
 rcases h with⟨rfl,_⟩|⟨t,g,f,rfl,_⟩<;>exact⟨rfl,rfl⟩
attribute [go_sem] bAz bA0 aXt aXu aXv aXw aXx Int.cast_ofNat_Int beq_self_eq_true
attribute [go_sem] Nat.reduceEqDiff Nat.reduceBEq Nat.reduceMul Nat.reduceLeDiff Nat.reduceAdd Nat.reduceSub Nat.reduceLT Int.reduceLT Int.reduceLE Int.reduceToNat Int.reduceAdd Int.reduceNeg Int.reduceEq Int.reduceOfNat Int.reduceNegSucc
theorem kK :type_of% @qC/\ type_of% @qG/\ type_of% @qS/\ type_of% @qW:=⟨@qC,@qG,@qS,@qW⟩
theorem kA :type_of% @bSs.{0}/\ type_of% @bS6.{0}/\ type_of% @bTz.{0}/\ type_of% @Bool.true_or/\ type_of% @bSj:=⟨@bSs.{0},@bS6.{0},@bTz.{0},@Bool.true_or,@bSj⟩
theorem kF :type_of% @bQm/\ type_of% @if_false.{1}/\ type_of% @bRc.{0}:=⟨@bQm,@if_false.{1},@bRc.{0}⟩
def kP (L:bG):List aL->St->(St->List Res->Prop)->Prop
 |[],st,Q=>Q st []
 |o::l,st,Q=>oJ L st o fun st' r=>kP L l st' fun s rs=>Q s ({r with v:= .dead}::rs)
theorem tF {L:bG}(l:List aL): ∀{st:St} {Q R:St->List Res->Prop},rC L l st Q->(∀s rs,Q s rs->R s rs)->rC L l st R:=by
 induction l with
 |nil=>intro st Q R h k;exact k _ _ h
 |cons o l ih=>intro st Q R h k;exact jF h fun s r hs=>ih hs fun s rs hq=>k _ _ hq
def mB :List Res->List Res->Prop
 |[],[]=>True
 |a::l,b::m=>(a={b with v:= .dead})/\ mB l m
 |_,_=>False
theorem aAp {L:bG}: ∀(l:List aL) {st:St} {Q:St->List Res->Prop},kP L l st Q->rC L l st fun st' rs=> ∃fs,mB fs rs/\ Q st' fs
 |[],st,Q,h=>⟨[],trivial,h⟩
 |o::l,st,Q,h=>by
  refine jF h fun s r h2=>?_
  refine tF l (aAp l h2) fun s rs ⟨fs,k1,k2⟩=>⟨{r with v:= .dead}::fs,(show mB ({r with v:= .dead}::fs) (r::rs)from⟨rfl,k1⟩),k2⟩
theorem aAq : ∀{fs rs:List Res},mB fs rs-> ∀(i:Nat),(fs[i]?=none/\ rs[i]?=none) \/ ∃b,fs[i]?=some {b with v:= .dead}/\ rs[i]?=some b
 |[],[],_,i=> .inl ⟨rfl,rfl⟩
 |a::l,b::m,h,0=> .inr ⟨b,by rw[<-h.1];rfl,rfl⟩
 |a::l,b::m,h,i+1=>by simpa using aAq h.2 i
 |[],_::_,h,_=>h.elim
 |_::_,[],h,_=>h.elim
variable {fs rs:List Res}
theorem uK (h:mB fs rs)(pairs:List (Nat×Nat))(hp:dP fs pairs=true):dP rs pairs=true:=by
 unfold dP at hp⊢
 refine bQp.2 fun p hm=>?_
 have:=bQp.1 hp p hm;rcases aAq h p.1 with⟨a1,_⟩|⟨b,a1,a2⟩
 ·rw[a1]at this;cases this
 rcases aAq h p.2 with⟨c1,_⟩|⟨d,c1,c2⟩
 ·rw[a1,c1]at this;cases this
 rw[a1,c1]at this;rw[a2,c2];exact this
theorem aG {L:bG}{R:Ex->St->Prop}
  (h:kP L l st fun st' rs=>dP rs pairs=true/\ R .normal st'):Wp L (.draw l pairs) st R:=by
 simp only[Wp];have hr:=aAp l h;split
 ·have: ∀(l:List aL) {st:St} {Q:St->List Res->Prop} {R:St->Prop},rC L l st Q->(∀s rs,Q s rs->R s)->gD L l st R:=by
   intro l
   induction l with
   |nil=>intro st Q R h k;exact k _ _ h
   |cons o l ih=>intro st Q R h k;exact jF h fun s r hs=>ih hs fun s rs hq=>k _ _ hq
  exact this l hr fun s rs ⟨_,_,h⟩=>h.2
 ·exact tF l hr fun s rs ⟨fs,h1,h2,h3⟩=>⟨uK h1 _ h2,h3⟩
section
variable {L :bG}{Q:St->List Res->Prop}
@[congr] theorem bF2 :kP L l st Q=kP L l st Q:=(rfl)
@[go_sem] theorem bOz (st:St):kP L [] st Q=Q st []:=(rfl)
def zN (L:bG)(l:List aL)(dst:Option Nat)(fr:Nat->Val)(en:En)(cnt:Nat->Nat->Nat)(Q:St->List Res->Prop):Option Res->Prop
 |some r=>(r.bump&&dst.isNone)=false/\ kP L l ⟨gZ fr dst r.v,W.applyAll en r.ws,if r.bump then aC cnt 0 (dst.getD 0) (cnt 0 (dst.getD 0)+1)else cnt⟩ fun s rs=>Q s ({r with v:= .dead}::rs)
 |none=>False
@[congr] theorem bF3 {r:Option Res}(h:r=r'):zN L l dst fr en cnt Q r=zN L l dst fr en cnt Q r':=by rw[h]
@[go_sem] theorem aUl {rs:List R}:
  zN L l dst fr en cnt Q (some ⟨v,ws,rs,false,none,u⟩)=kP L l ⟨gZ fr dst v,W.applyAll en ws,cnt⟩ fun s fs=>Q s ({v:= .dead,ws:=ws,rs:=rs,unch:=u}::fs):=by simp[zN]
@[go_sem] theorem aJx {rs:List R}:
  zN L l (some d) fr en cnt Q (some ⟨v,ws,rs,true,none,u⟩)=kP L l ⟨jD fr d v,W.applyAll en ws,aC cnt 0 d (cnt 0 d+1)⟩ fun s fs=>Q s ({v:= .dead,ws:=ws,rs:=rs,bump:=true,unch:=u}::fs):=by simp[zN,gZ]
@[go_sem] theorem bHo :zN L l dst fr en cnt Q none=False:=(rfl)
theorem aUm (h:op.plain=true):kP L (⟨dst,op,none⟩::l) ⟨fr,en,cnt⟩ Q=zN L l dst fr en cnt Q (cZ (dst.getD 0) (cnt 0 (dst.getD 0)) en (St.get fr) op):=by
 cases op<;>first|(simp[LOp.plain]at h;done)|rfl|(simp only[kP,oJ,wanted,WOp,zN];rfl)
@[go_sem] theorem bM3 (h:op.plain=true):kP L (⟨some d,op,none⟩::l) ⟨fr,en,cnt⟩ Q=zN L l (some d) fr en cnt Q (cZ d (cnt 0 d) en (St.get fr) op):=aUm h
@[go_sem] theorem bM4 (h:op.plain=true):kP L (⟨none,op,none⟩::l) ⟨fr,en,cnt⟩ Q=zN L l none fr en cnt Q (cZ 0 (cnt 0 0) en (St.get fr) op):=aUm h
@[go_sem] theorem bM5 {f:Opd}{args:List Opd}:kP L (⟨dst,.call f args,none⟩::l) ⟨fr,en,cnt⟩ Q=
  aCg L en (St.get fr f) (args.map (St.get fr)) fun r ks=>zN L l dst fr en cnt Q (some (gV 0 (dst.getD 0) (cnt 0 (dst.getD 0)) r ks)):=by
 simp only[kP,oJ,wanted,WOp,aCg,aHb,aRh];cases St.get fr f<;>first|rfl|skip
@[go_sem] theorem bKy {f:Opd}{args:List Opd}:kP L (⟨dst,.icall f args,none⟩::l) ⟨fr,en,cnt⟩ Q=
  WIn L (St.get fr f) (args.map (St.get fr)) en cnt fun v en' cnt'=>kP L l ⟨gZ fr dst v,en',cnt'⟩ fun s fs=>Q s ({v:= .dead,mem:=some (en',cnt'),unch:=fun k=>aQi (en k) (en' k)}::fs):=(rfl)
theorem aXy :kP L (⟨dst,op,some (t,b)⟩::l) ⟨fr,en,cnt⟩ Q=
  nB (fr t) b (kP L (⟨dst,op,none⟩::l) ⟨fr,en,cnt⟩ Q) (kP L l ⟨gZ fr dst (.tup []),en,cnt⟩ fun s fs=>Q s ({v:= .dead}::fs)) .mk:=by
 simp only[kP,oJ,wanted,nB,pX]
 split<;>rename_i h
 ·split at h
  ·rename_i b' hb;simp only[bQi]at h;simp only[hb,h,if_true]
  ·cases h
  ·cases h
 ·split at h
  ·rename_i b' hb;simp only[bQi]at h;simp only[hb,h,bQm,if_false,true_and]
  ·rename_i hb;simp only[hb,true_and]
  ·cases h
 ·split at h
  ·cases h
  ·cases h
  ·rename_i h1 h2;split
   ·rename_i b' hb;exact absurd hb (h1 _)
   ·rename_i hb;exact absurd hb h2
   ·rfl
theorem aGc {y:Opd}{rs:List R}(hx:cR en (St.get fr x) size xs D)(hy:iN en (St.get fr y)=some (ys,rs))(h1:cT size ys=true)(hrs:rs=[])
  (hl:xs.length+ys.length<=16777216)
  (k: ∀v en' cnt' r,cR en' v size (xs++ys) (d::D)->(∀n t g,n≠0 \/(t≠d/\ t∉D)->en' ⟨n,t,g⟩=en ⟨n,t,g⟩)->(∀n t,t≠d->cnt' n t=cnt n t)->
   (∀w∈(r:Res).ws,w.key.n=0/\ (w.key.t=d \/w.key.t∈D)/\ ∃e,w= .ent w.key e)->(∀ρ∈r.rs,ρ.key.n=0/\ ρ.key.t∈D)->r.mem=none->kP L l ⟨jD fr d v,en',cnt'⟩ fun s fs=>Q s ({r with v:= .dead}::fs)):
  kP L (⟨some d,.append size x y,none⟩::l) ⟨fr,en,cnt⟩ Q:=by
 subst hrs;rw[aUm (by rfl)]
 simp only[bRc];rcases hx with⟨hv,rfl⟩|⟨t,g,f,hv,he,ht⟩
 ·simp only[cZ,eval,fL,hy,h1,if_true,hv]
  by_cases hys:ys.isEmpty=true
  ·have:ys=[]:=by simpa using hys
   subst this;simp only[List.isEmpty_nil,if_true,aUl,fN];exact k _ _ _ {v:= .dead} (.inl ⟨rfl,rfl⟩) (fun _ _ _ _=>rfl) (fun _ _ _=>rfl) (by simp) (by simp) rfl
  ·rw[if_neg hys,if_pos ⟨by simpa using hl,rfl⟩]
   simp only[aJx,kL,fN,xE]
   refine k _ _ _ {v:= .dead,ws:=[.ent ⟨0,d,cnt 0 d⟩ _],rs:=[],bump:=true} (.inr ⟨d,cnt 0 d,false,by simp,by simp[En.set],by simp⟩) (fun n t g h=>jE (fun he=>?_)) (fun n t h=>by simp[aC,h]) (by simp[W.key]) (by simp) rfl
   injection he with h3 h4 h5
   rcases h with h|⟨h,_⟩
   ·exact h h3
   ·exact h h4
 ·simp only[cZ,eval,fL,aF8,hy,h1,if_true,hv,he];rw[if_pos ⟨.inl (by simp),hl,trivial,fun h=>by cases h⟩]
  simp only[aJx,kL,fN,xE]
  refine k _ _ _ {v:= .dead,ws:=[.ent ⟨0,t,g⟩ none,.ent ⟨0,d,cnt 0 d⟩ _],rs:=[.val ⟨0,t,g⟩,.flag ⟨0,t,g⟩],bump:=true} (.inr ⟨d,cnt 0 d,f,by simp,?_,by simp⟩) (fun n t' g' h=>?_) (fun n t h=>by simp[aC,h]) (by simp[W.key,ht]) (by simp[R.key,ht]) rfl
  ·simp[En.set]
  ·have e1:(⟨n,t',g'⟩:Key)≠⟨0,d,cnt 0 d⟩:=by
    intro he;injection he with h3 h4 h5;rcases h with h|⟨h,_⟩
    ·exact h h3
    ·exact h h4
   have e2:(⟨n,t',g'⟩:Key)≠⟨0,t,g⟩:=by
    intro he;injection he with h3 h4 h5;subst h4;rcases h with h|⟨_,h⟩
    ·exact h h3
    ·exact h ht
   rw[jE e1,jE e2]
end
theorem bA2 {k:Key}{ρ:R}:jU (.ent k e) ρ=decide (k≠ρ.key):=by cases ρ<;>rfl
theorem bA3 {k:Key}{o:Nat}:jU (.cells k o vs) (.val k')=decide (k≠k'):=rfl
theorem bA4 {k:Key}{o:Nat}:jU (.cells k o vs) (.flag k')=true:=rfl
theorem bA5 {k:Key}{o o' n:Nat}:jU (.cells k o vs) (.cells k' o' n)=(decide (k≠k')||decide (o+vs.length<=o')||decide (o'+n<=o)):=rfl
theorem bA6 {k:Key}{w:W}:mY (.ent k e) w=decide (k≠w.key):=by cases w<;>rfl
theorem bA7 {k:Key}{o:Nat}:mY (.cells k o vs) (.ent k' e)=decide (k≠k'):=rfl
theorem bA8 {k:Key}{o o':Nat}{vs':List Val}:mY (.cells k o vs) (.cells k' o' vs')=(decide (k≠k')||decide (o+vs.length<=o')||decide (o'+vs'.length<=o)):=rfl
theorem bKz {n:Nat}(h:t≠t'):((⟨n,t,g⟩:Key)≠⟨n',t',g'⟩)=True:=by simp[h]
attribute [go_sem] dP aDt bA2 bA3 bA4 bA5 bA6 bA7 bA8 bKz W.key R.key bSr aXy
def mR (P:Program)(F:TypeId->List Val->Prop):List Field->List Val->Prop
 |[],vs=>vs=[]
 |f::fs,vs=> ∃a b,vs=a++b/\ a.length=P.cellsOf f.type/\ F f.type a/\ mR P F fs b
def sR (P:Program)(t:TypeId)(vs:List Val):Val:=if cY P t then .agg vs else vs.getD 0 .dead
def jO (P:Program):Nat->TypeId->List Val->Prop
 |0,_,_=>False
 |n+1,t,vs=>
  match P.underlying t with
  |some .bool=> ∃b,vs=[.bool b]
  |some (.int k)=> ∃i,vs=[.int k i]/\ (Lit.int k i).wf=true
  |some .string=> ∃s:ByteArray,vs=[.str s]/\ s.size<=maxLen
  |some (.slice e)=> ∃xs:List (List Val),vs=[.fz (xs.map (sR P e))]/\ xs.length<=maxLen/\ ∀x∈xs,jO P n e x
  |some (.struct fs)=>mR P (jO P n) fs.toList vs
  |_=>True
def aRm (P:Program)(S:TypeId->Bool):Bool:=(List.range P.types.size).all fun t=>!S t||match P.underlying t with
 |some (.slice e)=>P.cellsOf e !=0&&S e
 |some (.struct fs)=>fs.toList.all fun f=>S f.type
 |some (.array ..)=>false
 |_=>true
def aHd (w:World):Nat->Nat->Prop:=fun b _=>b<w.heap.size
variable {w:World}{P:Program}
section
variable {H :Type}{enc:TypeId×Value->H}{sp:Nat->Bool}
def mD (w:World)(vs:List Val)(cs:List Value):Prop:=
 vs.length=cs.length/\ ∀i,i<cs.length->fM (cs.getD i undef)=true/\ VR (aHd w) Gh.none w (vs.getD i .dead) (cs.getD i undef)
theorem mD.nil :mD w [] []:=⟨rfl,fun i hi=>by simp at hi⟩
theorem mD.one {c:Value}(h:VR (aHd w) Gh.none w v c)(ho:fM c=true):mD w [v] [c]:=by
 refine⟨rfl,fun i hi=>?_⟩
 have:i=0:=by simp at hi;omega
 subst this;exact⟨ho,h⟩
theorem mD.append {b:List Val}{c d:List Value}(h:mD w a c)(k:mD w b d):mD w (a++b) (c++d):=by
 refine⟨by simp[h.1,k.1],fun i hi=>?_⟩
 simp only[bQn,bTc];rw[h.1];split
 ·rename_i hlt;have:=h.2 i hlt;simpa[bQn]using this
 ·have:=k.2 (i-c.length) (by simp at hi;omega);simpa[bQn]using this
theorem not_agg {c:Value}(h:VR (aHd w) Gh.none w v c)(ho:fM c=true):v.cells=[v]/\ v.one=true:=by
 cases h<;>first|exact⟨rfl,rfl⟩|(simp[fM]at ho)
theorem aHe (n:Nat)(F:TypeId->List Val->Prop): ∀(fs:List Field) (cs:List Value),cs.length=(fs.map fun f=>P.cellsOf f.type).sum->
  (∀(j:Nat) f,fs[j]?=some f-> ∃vs,F f.type vs/\ mD w vs ((cs.drop ((fs.take j).map fun f=>P.cellsOf f.type).sum).take (P.cellsOf f.type)))->
  ∃vs,mR P F fs vs/\ mD w vs cs
 |[],cs,hl,_=>by
  have:cs=[]:=by simpa using hl
  subst this;exact⟨[],rfl,mD.nil⟩
 |f::fs,cs,hl,h=>by
  simp only[bRj,List.sum_cons]at hl;obtain⟨a,ha,hra⟩:=h 0 f rfl;simp only[bQq,bQ1,List.sum_nil,bSm]at hra;obtain⟨b,hb,hrb⟩:=aHe n F fs (cs.drop (P.cellsOf f.type)) (by simp;omega) (fun j g hj=>by
   obtain⟨vs,h1,h2⟩:=h (j+1) g (by simpa using hj)
   refine⟨vs,h1,?_⟩
   simpa[List.drop_drop]using h2)
  refine⟨a++b,⟨a,b,rfl,?_,ha,hb⟩,?_⟩
  ·rw[hra.1];simp;omega
  ·have:=mD.append hra hrb
   rwa [List.take_append_drop]at this
theorem aRn (b o i:Nat):(⟨b,o,none⟩:Addr).add i=⟨b,o+i,none⟩:=by
 unfold Addr.add;split
 ·rename_i h;subst h;rfl
 ·rfl
theorem tG {a:Addr}{n:Nat}{cs:List Value}(h:w.cells? 0 a n=some cs):cs.length=n/\ ∀j,j<n->w.cell? (a.add j)=some (cs.getD j undef):=by
 unfold World.cells? at h;rw[if_pos (bQt _)]at h;have h1:=mapM_some_length h
 refine⟨by simpa using h1,fun j hj=>?_⟩
 have h2:=mapM_some_get h j j (by simp[hj])
 rw[h2];have:j<cs.length:=by rw[h1];simpa using hj
 simp[bQn,this]
theorem aM8 (hl:laidOutB P=true)(S:TypeId->Bool)(hz:aRm P S=true): ∀(fuel:Nat) (t:TypeId) (cs:List Value) (x:DataW H×List MemPlace),t<P.types.size->S t=true->DataW.trod enc P w 0 sp true fuel t cs=some x->
  ∃vs,jO P fuel t vs/\ mD w vs cs:=by
 intro fuel
 induction fuel with
 |zero=>intro t cs x _ _ h;simp[DataW.trod]at h
 |succ n ih=>
  intro t cs x ht hs h;have hz0:=bQp.1 hz t (bRi.2 ht);simp only[hs,bQ0,bRf]at hz0;cases hu:P.underlying t with
  |none=>simp[DataW.trod,hu]at h
  |some u=>
   have dead: ∀c:Value,cs=[c]->fM c=true-> ∃vs:List Val,True/\ mD w vs cs:=by
    rintro c rfl ho;exact⟨[.dead],trivial,mD.one (.dead c ho) ho⟩
   have gen:(∃c,cs=[c]/\ fM c=true)->(match u with| .bool| .int _| .string| .slice _| .struct _| .array .. =>False|_=>True)-> ∃vs,jO P (n+1) t vs/\ mD w vs cs:=by
    rintro⟨c,rfl,ho⟩ hk
    refine⟨[.dead],?_,mD.one (.dead c ho) ho⟩
    simp only[jO,hu];cases u<;>first|trivial|exact hk.elim
   cases u with
   |bool=>
    simp only[DataW.trod,hu]at h
    split at h<;>first|(cases h;done)|skip
    all_goals first|(rename_i h1;cases h1;done)|skip
    rename_i b h1;exact⟨[.bool b],by simp only[jO,hu];exact⟨b,rfl⟩,mD.one (.bool b) rfl⟩
   |int k=>
    simp only[DataW.trod,hu]at h
    split at h<;>first|(cases h;done)|skip
    all_goals first|(rename_i h1;cases h1;done)|skip
    rename_i k0 k' i h1;cases h1
    split at h
    ·rename_i hk;obtain⟨rfl,hw⟩:=hk;exact⟨[.int _ i],by simp only[jO,hu];exact⟨i,rfl,hw⟩,mD.one (.int _ i) rfl⟩
    ·cases h
   |string=>
    simp only[DataW.trod,hu]at h
    split at h<;>first|(cases h;done)|skip
    all_goals first|(rename_i h1;cases h1;done)|skip
    rename_i s h1
    split at h
    ·rename_i hs;exact⟨[.str s],by simp only[jO,hu];exact⟨s,rfl,hs⟩,mD.one (.str s) rfl⟩
    ·cases h
   |slice e=>
    simp only[hu,bQj]at hz0;have he:P.cellsOf e≠0:=by simpa using hz0.1
    have hSe:S e=true:=hz0.2;have hke:e<P.types.size:=kid_slice hl ht hu;rcases DataW.trod_slice hu h with⟨rfl,rfl⟩|⟨a,len,cap,elems,rest,m,hm,rfl,rfl,_,hlc,hcm,hel,hall⟩
    ·exact⟨[.fz []],by simp only[jO,hu];exact⟨[],rfl,bQt _,by simp⟩,mD.one (.fz0 _ _) rfl⟩
    ·cases hm
     replace hall:=hall.1
     have each: ∀i,i<len-> ∃csi vsi,w.cells? 0 (a.add (i*P.cellsOf e)) (P.cellsOf e)=some csi/\ jO P n e vsi/\ mD w vsi csi:=by
      intro i hi;have h1:=hall i hi;have hlt:i<elems.length:=by omega
      rw[bRq hlt]at h1;simp only[bQx]at h1;obtain⟨csi,h2,h3⟩:=h1;obtain⟨vsi,h4,h5⟩:=ih e csi _ hke hSe h3;exact⟨csi,vsi,h2,h4,h5⟩
     let C (i:Nat):List Value:=if hi:i<len then(each i hi).choose else []
     let V (i:Nat):List Val:=if hi:i<len then(each i hi).choose_spec.choose else []
     have hCV: ∀i,i<len->w.cells? 0 (a.add (i*P.cellsOf e)) (P.cellsOf e)=some (C i)/\ jO P n e (V i)/\ mD w (V i) (C i):=by
      intro i hi;have:=(each i hi).choose_spec.choose_spec;simp only[C,V,dif_pos hi];exact this
     have hpk: ∀i,i<len->(sR P e (V i)).cells=V i:=by
      intro i hi;obtain⟨h1,h2,h3⟩:=hCV i hi;unfold sR;split
      ·rfl
      ·rename_i hagg;have hlen:(V i).length=1:=by
        rw[h3.1,(tG h1).1];have hr:=rowFine_of hl hke;unfold cY at hagg;have hvar:isVar P e=true:=by
         have:=rowFine_of hl ht;simp only[rowFine,hu]at this;have hv:isVar P t=true:=by simp[isVar,ht,hu,kindOk]
         simp only[hv,bQ0,bRf,bQj]at this;exact this.1
        simp only[rowFine,hvar,bQ0,bRf]at hr
        split at hr<;>first|(rename_i h';rw[h']at hagg;simp at hagg;done)|(simp only[bQj,beq_iff_eq]at hr;exact hr.2)|(simpa using hr)
       obtain⟨v,hv⟩:=List.length_eq_one_iff.1 hlen;have h4:=h3.2 0 (by rw[<-h3.1,hlen];omega)
       rw[hv]at h4⊢;simp only[bTi]at h4⊢;exact(not_agg h4.2 h4.1).1
     refine⟨[.fz ((List.range len).map fun i=>sR P e (V i))],?_,?_⟩
     ·simp only[jO,hu]
      refine⟨(List.range len).map V,by simp[Function.comp_def],by simp;omega,fun x hx=>?_⟩
      obtain⟨i,hi,rfl⟩:=bRe.1 hx;exact(hCV i (by simpa using hi)).2.1
     ·refine mD.one ?_ rfl
      by_cases h0:len=0
      ·subst h0;exact .fz0 _ _
      ·have hsp:a.spot=none:=by
        have:=(tG (hCV 0 (by omega)).1).2 0 (by omega)
        unfold World.cell? at this
        split at this
        ·rename_i hh
         split at this
         ·cases this
         ·rename_i hs;simpa[Addr.add]using hs
        ·cases this
       obtain⟨blk,off,spt⟩:=a
       simp only at hsp
       subst hsp;have hg: ∀i,i<len->((List.range len).map fun i=>sR P e (V i)).getD i .dead=sR P e (V i):=by
        intro i hi;simp[bQn,hi]
       have hcell: ∀i j,i<len->j<P.cellsOf e->w.cell? ⟨blk,off+i*P.cellsOf e+j,none⟩=some ((C i).getD j undef):=by
        intro i j hi hj;have:=(tG (hCV i hi).1).2 j hj;rw[aRn,aRn]at this;exact this
       have:=VR.fz (T:=aHd w) (G:=Gh.none) (w:=w) ((List.range len).map fun i=>sR P e (V i)) blk off (P.cellsOf e) cap (fun i j=>(C i).getD j undef)
        (by simpa using hlc) (fun i hi=>by
         have hi':i<len:=by simpa using hi
         rw[hg i hi',hpk i hi',(hCV i hi').2.2.1,(tG (hCV i hi').1).1])
        (fun i j hi hj=>hcell i j (by simpa using hi) hj)
        (fun i j hi hj=>by
         have:=hcell i j (by simpa using hi) hj
         unfold World.cell? at this
         split at this
         ·rename_i hh;exact(bSd.1 hh).1
         ·cases this)
        (fun i j hi hj=>by
         have hi':i<len:=by simpa using hi
         exact((hCV i hi').2.2.2 j (by rw[(tG (hCV i hi').1).1];exact hj)).1)
        (fun i j hi hj=>by
         have hi':i<len:=by simpa using hi
         rw[hg i hi',hpk i hi'];exact((hCV i hi').2.2.2 j (by rw[(tG (hCV i hi').1).1];exact hj)).2)
       simpa using this
   |struct fs=>
    obtain⟨xs,m,hm,_,hlen,hxl,hall⟩:=DataW.trod_struct hu h;cases hm;obtain⟨k1,k2,k3⟩:=kid_struct hl ht hu;obtain⟨vs,h1,h2⟩:=aHe (P:=P) (w:=w) n (jO P n) fs.toList cs (by rw[hlen,k2]) (fun j f hj=>by
     have h3:=hall j f (by simpa using hj)
     have hj':j<xs.length:=by rw[hxl];exact(by simpa using(bT4.1 hj).1)
     rw[bRq hj']at h3;rw[k3 j f hj]at h3;exact ih _ _ _ (k1 f (List.mem_of_getElem? hj)) (by simp only[hu]at hz0;exact bQp.1 hz0 f (List.mem_of_getElem? hj)) h3)
    exact⟨vs,by simp only[jO,hu];exact h1,h2⟩
   |array k e=>
    simp[hu]at hz0
   |_=>
    refine gen ?_ trivial
    simp only[DataW.trod,hu]at h
    first
    |(cases h;done)
    |(split at h<;>first|(cases h;done)|exact⟨_,rfl,rfl⟩|(rename_i h1;cases h1;done)|(rename_i h1 _;cases h1;done))
end
section
variable {n:Nat}{t:TypeId}
theorem gH (hu:P.underlying t=some (.int k))(h:jO P (n+1) t vs): ∃i,vs=[.int k i]:=by
 simp only[jO,hu]at h;obtain⟨i,h,_⟩:=h;exact⟨i,h⟩
theorem aRo (hu:P.underlying t=some .string)(h:jO P (n+1) t vs): ∃s:ByteArray,vs=[.str s]/\ Few s.size:=by
 simp only[jO,hu]at h;obtain⟨s,h,k⟩:=h;exact⟨s,h,by unfold Few;unfold maxLen at k;omega⟩
theorem aV9 {α:Type}(enc:α->Val)(Q:α->Prop)(f:List Val->Val): ∀(xs:List (List Val)),(∀x∈xs,∃a,f x=enc a/\ Q a)-> ∃l:List α,xs.map f=l.map enc/\ l.length=xs.length/\ ∀a∈l,Q a
 |[],_=>⟨[],rfl,rfl,by simp⟩
 |x::xs,h=>by
  obtain⟨a,ha,hq⟩:=h x (by simp)
  obtain⟨l,h1,h2,h3⟩:=aV9 enc Q f xs fun y hy=>h y (by simp[hy])
  exact⟨a::l,by simp[ha,h1],by simp[h2],fun b hb=>by rcases bRm.1 hb with rfl|hb;exact hq;exact h3 b hb⟩
theorem lQ (enc:α->Val)(Q:α->Prop){e:TypeId}(hu:P.underlying t=some (.slice e))(hel: ∀x,jO P n e x-> ∃a,sR P e x=enc a/\ Q a)(h:jO P (n+1) t vs):
  ∃l:List α,vs=[.fz (l.map enc)]/\ Few l.length/\ ∀a∈l,Q a:=by
 simp only[jO,hu]at h;obtain⟨xs,h,hl,hx⟩:=h;obtain⟨l,h1,h2,h3⟩:=aV9 enc Q (sR P e) xs fun x hm=>hel x (hx x hm)
 exact⟨l,by rw[h,h1],by rw[h2];unfold Few;unfold maxLen at hl;omega,h3⟩
theorem gQ {fs:Array Field}(hu:P.underlying t=some (.struct fs))(h:jO P (n+1) t vs):mR P (jO P n) fs.toList vs:=by
 simp only[jO,hu]at h;exact h
theorem aHf {F F':TypeId->List Val->Prop}(h: ∀t vs,F t vs->F' t vs): ∀(fs:List Field) (vs:List Val),mR P F fs vs->mR P F' fs vs
 |[],vs,k=>k
 |f::fs,vs,⟨a,b,h1,h2,h3,h4⟩=>⟨a,b,h1,h2,h _ _ h3,aHf h fs b h4⟩
theorem aGd : ∀(n:Nat) (t:TypeId) (vs:List Val),jO P n t vs->jO P (n+1) t vs
 |0,t,vs,h=>by simp[jO]at h
 |n+1,t,vs,h=>by
  rw[jO]at h⊢;split
  ·rename_i hu;rw[hu]at h;exact h
  ·rename_i hu;rw[hu]at h;exact h
  ·rename_i hu;rw[hu]at h;exact h
  ·rename_i hu;rw[hu]at h;obtain⟨xs,h1,h2,h3⟩:=h;exact⟨xs,h1,h2,fun x hx=>aGd n _ _ (h3 x hx)⟩
  ·rename_i hu;rw[hu]at h;exact aHf (aGd n) _ _ h
  ·trivial
theorem aM9 (k:Nat)(h:jO P n t vs):jO P (n+k) t vs:=by
 induction k with
 |zero=>exact h
 |succ k ih=>exact aGd _ _ _ ih
theorem aO3 {x:Array Value}(h:mD w vs x.toList):VR (aHd w) Gh.none w (.agg vs) (.agg x):=by
 have e: ∀i,x.getD i undef=x.toList.getD i undef:=by
  intro i;simp[bQy,bQn]
 have hl:vs.length=x.size:=by simpa using h.1
 refine .agg vs x hl.symm (fun i hi=>?_) fun i hi=>?_
 ·rw[e];exact(h.2 i (by rw[bSt];omega)).1
 ·rw[e];exact(h.2 i (by rw[bSt];omega)).2
end
theorem bR {L:bG}{R:Ex->St->Prop}(h:gD L l st (R .normal)):Wp L (.opsP l) st R:= .inl h
theorem cO {L:bG}{R:Ex->St->Prop}(k:Nat){o:aL}(hk:l[k]?=some o)(h:gD L (l.take k) st fun st1=>kX L o st1 fun v st2=>R (.panic v) st2):Wp L (.opsP l) st R:= .inr ⟨k,o,hk,h⟩
theorem jG {L:bG}{R:Ex->St->Prop}
  (h:kP L l st fun st' rs=>dP rs pairs=true/\ R .normal st'):Wp L (.drawP l an pairs) st R:=
 .inl (tF l (aAp l h) fun s rs ⟨fs,h1,h2,h3⟩=>⟨uK h1 _ h2,h3⟩)
theorem aWa {L:bG}: ∀(l:List aL) {st:St} {Q:St->List Res->Prop} {R:St->Prop},rC L l st Q->(∀s rs,Q s rs->R s)->gD L l st R
 |[],st,Q,R,h,k=>k _ _ h
 |o::l,st,Q,R,h,k=>jF h fun s r hs=>aWa l hs fun s rs hq=>k _ _ hq
theorem bA9 {L:bG}{R:Ex->St->Prop}(h:gD L l st (R .normal)):Wp L (.drawP l an []) st R:=by
 refine .inl ?_
 have: ∀(l:List aL) {st:St} {Q:St->Prop},gD L l st Q->rC L l st fun s _=>Q s:=by
  intro l
  induction l with
  |nil=>intro st Q h;exact h
  |cons o l ih=>intro st Q h;exact jF h fun s r hs=>ih hs
 exact tF l (this l h) fun s rs hq=>⟨rfl,hq⟩
def mvC (o:aL):Bool:=o.guard.isNone&&(match o.op with| .mv (.c _)=>true|_=>false)
def aEj (an:List (List Nat))(j:Nat)(l:List aL):Bool:=
 (List.range l.length).all fun i=>if i<j then !behind an j i&&!zJ an j l i else behind an j i||((zJ an j l i||mvC (l.getD i default))&&(l.getD i default).dst.all fun d=>!(l.getD j default).uses.contains d)
def aC7 (an:List (List Nat))(j:Nat)(l:List aL):List aL:=(List.range (l.length-j)).map fun i=>(dB an j l).getD (j+i) default
theorem bBa (h:aEj an j l=true)(hj:j<=l.length):dB an j l=l.take j++aC7 an j l:=by
 refine List.ext_getElem (by simp[dB,aC7];omega) fun i h1 h2=>?_
 have hi:i<l.length:=by simpa[dB]using h1
 have hb:=bQp.1 h i (bRi.2 hi)
 by_cases hji:i<j
 ·rw[List.getElem_append_left (by simp;omega)]
  simp only[hji,if_true,bQj,bRw]at hb;simp[dB,hb.1,hb.2,bQn,hi]
 ·rw[List.getElem_append_right (by simp;omega)]
  have e1:(l.take j).length=j:=by simp;omega
  simp only[e1,aC7,List.getElem_map,List.getElem_range,Nat.add_sub_cancel' (by omega:j<=i)]
  simp[bQn,h1]
theorem aXz (h:aEj an j l=true)(hj:j<=l.length):
  ∀o∈aC7 an j l,o=aIu \/ ∃x∈l,∃v,o={dst:=x.dst,op:= .mv (.c v),guard:=none}/\ ∀d,x.dst=some d->d∉(l.getD j default).uses:=by
 intro o ho;simp only[aC7,bRe,bRi]at ho;obtain⟨i,hi,rfl⟩:=ho;have hb:=bQp.1 h (j+i) (bRi.2 (by omega))
 have hnj: ¬j+i<j:=by omega
 simp only[hnj,if_false]at hb;have e:(dB an j l).getD (j+i) default=if behind an j (j+i)=true then aIu else if zJ an j l (j+i)=true then aGw (l.getD (j+i) default)else l.getD (j+i) default:=by
  simp[dB,bQn,show j+i<l.length by omega]
 rw[e];have hmem:l.getD (j+i) default∈l:=by
  rw[bQn,bRq (by omega)]
  exact bQr _
 by_cases hbe:behind an j (j+i)=true
 ·rw[if_pos hbe];exact .inl rfl
 ·rw[if_neg hbe];simp only[bRu]at hbe;rw[hbe,bRf,bQj,bRr]at hb;have huse: ∀d,(l.getD (j+i) default).dst=some d->d∉(l.getD j default).uses:=fun d hd=>by
   have:=hb.2;rw[hd]at this
   simpa using this
  by_cases hlo:zJ an j l (j+i)=true
  ·rw[if_pos hlo];exact .inr ⟨_,hmem,.dead,rfl,huse⟩
  ·rw[if_neg hlo];have hm:=hb.1.resolve_left hlo;simp only[mvC,bQj,bTo]at hm;generalize l.getD (j+i) default=o at hm huse hmem⊢;obtain⟨od,oo,og⟩:=o;obtain⟨hg,ho⟩:=hm
   simp only at hg ho
   subst hg
   split at ho
   ·rename_i v;exact .inr ⟨_,hmem,v,rfl,huse⟩
   ·cases ho
def rD :Res:={v:= .dead}
theorem aJy {L:bG}: ∀(l m:List aL) {st:St} {Q:St->List Res->Prop},(rC L l st fun s rs=>rC L m s fun s' rs'=>Q s' (rs++rs'))->rC L (l++m) st Q
 |[],m,st,Q,h=>h
 |o::l,m,st,Q,h=>jF h fun s r hs=>aJy l m hs
theorem aRp {L:bG}{U:Nat->Prop}{D:Nat->Prop}: ∀(m:List aL),(∀o∈m,o=aIu \/ ∃d v,o={dst:=d,op:= .mv (.c v),guard:=none}/\ ∀t,d=some t-> ¬U t/\ D t)-> ∀{st:St} {Q:St->List Res->Prop},
  (∀s rs,s.en=st.en->s.cnt=st.cnt->(∀t,U t->s.fr t=st.fr t)->(∀t,¬D t->s.fr t=st.fr t)->mB (List.replicate m.length rD) rs->Q s rs)->rC L m st Q
 |[],_,st,Q,h=>h st [] rfl rfl (fun _ _=>rfl) (fun _ _=>rfl) trivial
 |o::m,hm,st,Q,h=>by
  have ih: ∀(st1:St) (r:Res),st1.en=st.en->st1.cnt=st.cnt->(∀t,U t->st1.fr t=st.fr t)->(∀t,¬D t->st1.fr t=st.fr t)->rD={r with v:= .dead}->rC L m st1 fun s rs=>Q s (r::rs):=fun st1 r a1 a2 a3 a4 a5=>
   aRp m (fun o ho=>hm o (bSo _ ho)) fun s rs b1 b2 b3 b4 b5=>h s (r::rs) (b1.trans a1) (b2.trans a2) (fun t ht=>(b3 t ht).trans (a3 t ht)) (fun t ht=>(b4 t ht).trans (a4 t ht)) ⟨a5,b5⟩
  rcases hm o (by simp)with rfl|⟨d,v,rfl,hd⟩
  ·exact⟨rfl,ih st _ rfl rfl (fun _ _=>rfl) (fun _ _=>rfl) rfl⟩
  ·refine⟨rfl,ih _ _ rfl rfl (fun t ht=>?_) (fun t ht=>?_) rfl⟩
   ·exact pH fun x hx e=>(hd x hx).1 (e▸ht)
   ·exact pH fun x hx e=>ht (e▸(hd x hx).2)
theorem aRq : ∀{fs rs fs' rs':List Res},mB fs rs->mB fs' rs'->mB (fs++fs') (rs++rs')
 |[],[],_,_,_,h=>h
 |a::l,b::m,_,_,h,k=>⟨h.1,aRq h.2 k⟩
 |[],_::_,_,_,h,_=>h.elim
 |_::_,[],_,_,h,_=>h.elim
theorem aUn {L:bG}{o:aL}{s:St}{K:Val->St->Prop}(h:kX L o st K)(he:s.en=st.en)(hc:s.cnt=st.cnt)(hf: ∀t∈o.uses,s.fr t=st.fr t):
  kX L o s fun v s2=>K v ⟨st.fr,s2.en,s2.cnt⟩/\ s2.fr=s.fr:=by
 have hw:wanted s.fr o.guard=wanted st.fr o.guard:=by
  cases hg:o.guard with
  |none=>rfl
  |some p=>
   obtain⟨t,b⟩:=p;simp only[wanted];rw[hf t (by simp[aL.uses,hg])]
 have hgt: ∀x∈o.op.opds,St.get s.fr x=St.get st.fr x:=by
  intro x hx;cases x with
  |t i=>exact hf i (by simp only[aL.uses,bRb,bRx];exact .inl ⟨_,hx,by simp[Opd.tmp]⟩)
  |c v=>rfl
  |f i=>rfl
  |m tbl i=>simp only[St.get];rw[hf i (by simp only[aL.uses,bRb,bRx];exact .inl ⟨_,hx,by simp[Opd.tmp]⟩)]
 obtain⟨fr,en,cnt⟩:=st;obtain⟨fr2,en2,cnt2⟩:=s
 simp only at he hc
 subst he hc;unfold kX at h⊢;rw[hw]
 split at h
 case h_2=>cases h
 split at h
 ·rename_i x hop;simp only[hop]at hgt⊢;rw[hgt x (by simp[LOp.opds])]
  split at h
  case h_2=>cases h
  rename_i t u hu;rw[hu];exact⟨h.1,h.2,by first|rfl|trivial⟩
 ·rename_i f args hop;simp only[hop]at hgt⊢;rw[hgt f (by simp[LOp.opds]),show args.map (St.get fr2)=args.map (St.get fr)from bSx fun p hp=>hgt p (by simp[LOp.opds,hp])]
  split at h
  case h_2=>cases h
  rename_i f' a b hf1 hf2
  split at h
  case h_2=>cases h
  rename_i rs hrs;obtain⟨v,h1,h2⟩:=h;rw[hf1,hf2];simp only[hrs];exact⟨v,h1,h2,by first|rfl|trivial⟩
 ·rename_i f args hop;simp only[hop]at hgt⊢;rw[hgt f (by simp[LOp.opds]),show args.map (St.get fr2)=args.map (St.get fr)from bSx fun p hp=>hgt p (by simp[LOp.opds,hp])]
  split at h
  case h_2=>cases h
  rename_i f' a b hf1;rw[hf1];exact h.mono fun v en' cnt' hk=>⟨hk,by first|rfl|trivial⟩
 ·cases h
theorem aJz (h:mB fs rs)(hp:jV an j l fs=true):jV an j l rs=true:=by
 unfold jV at hp⊢
 refine bQp.2 fun i hi=>?_
 have:=bQp.1 hp i hi;simp only[bRr]at this⊢
 refine this.imp id fun h2=>?_
 rcases aAq h i with⟨a1,_⟩|⟨b,a1,a2⟩
 ·rw[a1]at h2;cases h2
 ·rw[a1]at h2;rw[a2];exact h2
theorem aWb {L:bG}{C:List Res->Prop}{R:Val->St->Prop}(j:Nat){o:aL}(hj:l[j]?=some o)(ht:aEj an j l=true)(hC: ∀fs rs,mB fs rs->C fs->C rs)
  (h:kP L (l.take j) st fun st1 fs=>C (fs++List.replicate (l.length-j) rD)/\ kX L o st1 fun v st2=>R v ⟨fun t=>if mZ l t then .tup []else st2.fr t,st2.en,st2.cnt⟩):
  (gD L (l.take j) st fun s=>kX L o s fun _ _=>True)/\ rC L (dB an j l) st fun st1 rs=>C rs/\ kX L o st1 fun v st2=>R v ⟨fun t=>if mZ l t then .tup []else st2.fr t,st2.en,st2.cnt⟩:=by
 have hjl:j<l.length:=(bT4.1 hj).1;have hr:=aAp _ h
 refine⟨aWa _ hr fun s rs ⟨_,_,_,h3⟩=>uE h3 fun _ _ _=>trivial,?_⟩
 rw[bBa ht (by omega)]
 have hoj:l.getD j default=o:=by simp[bQn,hj]
 have htl:(aC7 an j l).length=l.length-j:=by simp[aC7]
 refine aJy _ _ (tF _ hr fun s rs ⟨fs,h1,h2,h3⟩=>aRp (U:=fun t=>t∈o.uses) (D:=fun t=>mZ l t=true) _ (fun x hx=>?_) fun s' rs' a1 a2 a3 a4 a5=>⟨?_,?_⟩)
 ·refine(aXz ht (by omega) x hx).imp id ?_
  rintro⟨y,hy,v,rfl,hd⟩
  refine⟨y.dst,v,rfl,fun t e=>⟨by rw[<-hoj];exact hd t e,?_⟩⟩
  simp only[mZ,bTg,beq_iff_eq];exact⟨y,hy,e⟩
 ·rw[htl]at a5;exact hC _ _ (aRq h1 a5) h2
 ·refine uE (aUn h3 a1 a2 a3) ?_
  rintro v s2 ⟨hk,e⟩
  have:(fun t=>if mZ l t then Val.tup []else s.fr t)=fun t=>if mZ l t then Val.tup []else s2.fr t:=by
   funext t
   by_cases hd:mZ l t=true
   ·rw[if_pos hd,if_pos hd]
   ·rw[if_neg hd,if_neg hd,e,a4 t hd]
  rw[this]at hk;exact hk
theorem kR {L:bG}{R:Ex->St->Prop}(j:Nat){o:aL}(hj:l[j]?=some o)(ht:aEj an j l=true)
  (h:kP L (l.take j) st fun st1 fs=>(dP (fs++List.replicate (l.length-j) rD) pairs&&jV an j l (fs++List.replicate (l.length-j) rD))=true/\
   kX L o st1 fun v st2=>R (.panic v) ⟨fun t=>if mZ l t then .tup []else st2.fr t,st2.en,st2.cnt⟩):Wp L (.drawP l an pairs) st R:=by
 obtain⟨h1,h2⟩:=aWb (R:=fun v st=>R (.panic v) st) (C:=fun fs=>(dP fs pairs&&jV an j l fs)=true) j hj ht (fun fs rs hs hc=>by
  rw[bQj]at hc⊢;exact⟨uK hs _ hc.1,aJz hs hc.2⟩) h
 exact .inr ⟨j,o,hj,h1,h2⟩
variable {A:Nat}
theorem aNa {k:Key}(h:mB fs rs)(hp:oR an A k fs=true):oR an A k rs=true:=by
 have hlen:fs.length=rs.length:=by
  clear hp
  induction fs generalizing rs with
  |nil=>cases rs with
   |nil=>rfl
   |cons=>exact h.elim
  |cons f fs ih=>cases rs with
   |nil=>exact h.elim
   |cons r rs=>simp only[bQu];rw[ih h.2]
 unfold oR at hp⊢
 refine bQp.2 fun i hi=>?_
 have:=bQp.1 hp i (by rwa [hlen])
 simp only[bRr]at this⊢
 refine this.imp id fun h2=>?_
 rcases aAq h i with⟨a1,_⟩|⟨b,a1,a2⟩
 ·rw[a1]at h2;cases h2
 ·rw[a1]at h2;rw[a2];exact h2
theorem oK {L:bG}{R:Ex->St->Prop}(hA:l[A]?=some {dst:=some d,op:= .alloc z,guard:=none})
  (h:kP L (l.set A {dst:=some d,op:= .mv (.c (.ptr ⟨0,d,cnt 0 d⟩ 0)),guard:=none}) ⟨fr,en.set ⟨0,d,cnt 0 d⟩ (some (.box z false)),aC cnt 0 d (cnt 0 d+1)⟩ fun st' rs=>dP rs pairs=true/\ oR an A ⟨0,d,cnt 0 d⟩ rs=true/\ R .normal st'):
  Wp L (.drawL l an pairs A) ⟨fr,en,cnt⟩ R:=by
 have hg:l.getD A default={dst:=some d,op:= .alloc z,guard:=none}:=by rw[bQn,hA];rfl
 have hL:iX A ⟨0,d,cnt 0 d⟩ l=l.set A {dst:=some d,op:= .mv (.c (.ptr ⟨0,d,cnt 0 d⟩ 0)),guard:=none}:=by unfold iX zK;rw[hg]
 have hK:iG ⟨fr,en,cnt⟩ {dst:=some d,op:= .alloc z,guard:=none}=⟨0,d,cnt 0 d⟩:=rfl
 refine .inl ?_
 rw[hg,hK,hL];exact tF _ (aAp _ h) fun s rs ⟨fs,h1,h2,h3,h4⟩=>⟨by rw[bQj];exact⟨uK h1 _ h2,aNa h1 h3⟩,h4⟩
theorem aRr {L:bG}{R:Ex->St->Prop}(hA:l[A]?=some {dst:=some d,op:= .alloc z,guard:=none})(j:Nat){o:aL}
  (hj:(l.set A {dst:=some d,op:= .mv (.c (.ptr ⟨0,d,cnt 0 d⟩ 0)),guard:=none})[j]?=some o) (ht:aEj an j (l.set A {dst:=some d,op:= .mv (.c (.ptr ⟨0,d,cnt 0 d⟩ 0)),guard:=none})=true)
  (h:kP L ((l.set A {dst:=some d,op:= .mv (.c (.ptr ⟨0,d,cnt 0 d⟩ 0)),guard:=none}).take j) ⟨fr,en.set ⟨0,d,cnt 0 d⟩ (some (.box z false)),aC cnt 0 d (cnt 0 d+1)⟩ fun st1 fs=>
   ((dP (fs++List.replicate ((l.set A {dst:=some d,op:= .mv (.c (.ptr ⟨0,d,cnt 0 d⟩ 0)),guard:=none}).length-j) rD) pairs&&
    jV an j (l.set A {dst:=some d,op:= .mv (.c (.ptr ⟨0,d,cnt 0 d⟩ 0)),guard:=none}) (fs++List.replicate ((l.set A {dst:=some d,op:= .mv (.c (.ptr ⟨0,d,cnt 0 d⟩ 0)),guard:=none}).length-j) rD))&&
    oR an A ⟨0,d,cnt 0 d⟩ (fs++List.replicate ((l.set A {dst:=some d,op:= .mv (.c (.ptr ⟨0,d,cnt 0 d⟩ 0)),guard:=none}).length-j) rD))=true/\
   kX L o st1 fun v st2=>R (.panic v) ⟨fun t=>if mZ (l.set A {dst:=some d,op:= .mv (.c (.ptr ⟨0,d,cnt 0 d⟩ 0)),guard:=none}) t then .tup []else st2.fr t,st2.en,st2.cnt⟩):
  Wp L (.drawL l an pairs A) ⟨fr,en,cnt⟩ R:=by
 have hg:l.getD A default={dst:=some d,op:= .alloc z,guard:=none}:=by rw[bQn,hA];rfl
 have hL:iX A ⟨0,d,cnt 0 d⟩ l=l.set A {dst:=some d,op:= .mv (.c (.ptr ⟨0,d,cnt 0 d⟩ 0)),guard:=none}:=by unfold iX zK;rw[hg]
 have hK:iG ⟨fr,en,cnt⟩ {dst:=some d,op:= .alloc z,guard:=none}=⟨0,d,cnt 0 d⟩:=rfl;obtain⟨h1,h2⟩:=aWb (R:=fun v st=>R (.panic v) st) (C:=fun fs=>((dP fs pairs&&jV an j (l.set A {dst:=some d,op:= .mv (.c (.ptr ⟨0,d,cnt 0 d⟩ 0)),guard:=none}) fs)&&oR an A ⟨0,d,cnt 0 d⟩ fs)=true) j hj ht (fun fs rs hs hc=>by
  rw[bQj,bQj]at hc⊢;exact⟨⟨uK hs _ hc.1.1,aJz hs hc.1.2⟩,aNa hs hc.2⟩) h
 refine .inr ⟨j,o,?_⟩
 rw[hg,hK,hL];exact⟨hj,h1,h2⟩
section
variable {L :bG}{K:Val->St->Prop}
def WPx (L:bG)(f:Nat)(args:List Val)(K:Val->Prop):Prop:= ∃v,PX L f args v/\ K v
@[congr] theorem bI5 {K:Val->Prop}(h:a=a'):WPx L f a K=WPx L f a' K:=by rw[h]
theorem _root_.Go.Abs.PX.det {L:bG}{s:Val}(h:PX L f args r)(k:PX L f args s):s=r:=by
 obtain⟨n,h⟩:=h;obtain⟨m,k⟩:=k;have h1:=h (max n m) (by omega);have h2:=k (max n m) (by omega)
 rw[h1]at h2;cases h2;rfl
theorem _root_.Go.Abs.PX.ret {L:bG}(h:PX L f args r){K:Val->Prop}:WPx L f args K=K r:=
 propext ⟨fun⟨s,h1,h2⟩=>h.det h1▸h2,fun h2=>⟨r,h,h2⟩⟩
def bBb (L:bG)(f:Nat)(o:Option (List (Val×List Key)))(K:Val->Prop):Prop:=
 match o with
 |some rs=>WPx L f (rs.map (·.1.wk1)) K
 |none=>False
@[congr] theorem bHp {o:Option (List (Val×List Key))}{K:Val->Prop}(h:o=o'):bBb L f o K=bBb L f o' K:=by rw[h]
@[go_sem] theorem bQh {rs:List (Val×List Key)}{K:Val->Prop}:bBb L f (some rs) K=WPx L f (rs.map (·.1.wk1)) K:=(rfl)
@[congr] theorem bF4 {o:aL}:kX L o st K=kX L o st K:=(rfl)
@[go_sem] theorem bK0 {args:List Opd}:kX L ⟨dst,.call (.f f) args,none⟩ ⟨fr,en,cnt⟩ K=bBb L f (cP (snapD 8 en) (args.map (St.get fr))) fun v=>K v ⟨fr,en,cnt⟩:=by
 simp only[kX,wanted,Opd.noM,St.get,bRo,bRk,bBb,WPx]
 all_goals cases cP (snapD 8 en) (List.map (St.get fr) args)<;>rfl
@[congr] theorem bHq {K:Val->En->(Nat->Nat->Nat)->Prop}(h:a=a'):vC L f a en cnt K=vC L f a' en cnt K:=by rw[h]
def aRs (L:bG)(f:Val)(args:List Val)(en:En)(cnt:Nat->Nat->Nat)(K:Val->En->(Nat->Nat->Nat)->Prop):Prop:=
 match f with
 | .fn f a b=>vC L f (a++args++b) en cnt K
 |_=>False
@[congr] theorem bF5 {f:Val}{K:Val->En->(Nat->Nat->Nat)->Prop}(h:f=f')(h':a=a'):aRs L f a en cnt K=aRs L f' a' en cnt K:=by rw[h,h']
@[go_sem] theorem bI6 {f:Opd}{args:List Opd}:kX L ⟨dst,.icall f args,none⟩ ⟨fr,en,cnt⟩ K=aRs L (St.get fr f) (args.map (St.get fr)) en cnt fun v en' cnt'=>K v ⟨fr,en',cnt'⟩:=by
 simp only[kX,wanted,aRs]
 all_goals cases St.get fr f<;>rfl
@[go_sem] theorem bQf {b:List Val}{K:Val->En->(Nat->Nat->Nat)->Prop}:aRs L (.fn f a b) args en cnt K=vC L f (a++args++b) en cnt K:=(rfl)
def aRt (v:Val)(K:Val->Prop):Prop:=match v with
 | .ifc t u=>(Val.ifc t u).flat=true/\ K (.ifc t u)
 |_=>False
@[congr] theorem bF6 {K:Val->Prop}(h:v=v'):aRt v K=aRt v' K:=by rw[h]
@[go_sem] theorem bI7 :kX L ⟨dst,.panic x,none⟩ ⟨fr,en,cnt⟩ K=aRt (St.get fr x) fun v=>K v ⟨fr,en,cnt⟩:=by
 simp only[kX,wanted,aRt]
 all_goals cases St.get fr x<;>rfl
@[go_sem] theorem bQg {u:Val}{K:Val->Prop}:aRt (.ifc t u) K=((Val.ifc t u).flat=true/\ K (.ifc t u)):=(rfl)
end
def aEk (P:Program)(g:Nat):List Nat:=(P.funcs[g]?).elim [] P.leadsTo
theorem aO4 {P:Program}{G:Nat->Prop}(hc: ∀g,G g-> ∀h∈aEk P g,G h): ∀(n:Nat) (todo seen:List Nat),(∀g∈todo,G g)->(∀g∈seen,G g)-> ∀g∈P.closureVia n todo seen,G g
 |0,_,seen,_,hs=>fun g hg=>hs g (by simpa[Program.closureVia]using hg)
 |n+1,[],seen,_,hs=>fun g hg=>hs g (by simpa[Program.closureVia]using hg)
 |n+1,f::todo,seen,ht,hs=>by
  rw[Program.closureVia];split
  ·exact aO4 hc n todo seen (fun g hg=>ht g (bSo _ hg)) hs
  ·refine aO4 hc n _ _ (fun g hg=>?_) (fun g hg=>?_)
   ·rcases bRb.1 hg with h|h
    ·exact hc f (ht f bTv) g h
    ·exact ht g (bSo _ h)
   ·rcases bRm.1 hg with rfl|h
    ·exact ht g bTv
    ·exact hs g h
def rest (P:Program)(seen:List Nat):List Nat->Nat
 |[]=>0
 |g::l=>(if seen.contains g then 0 else(aEk P g).length)+rest P seen l
theorem aO5 {P:Program}{seen:List Nat}(f:Nat): ∀l,rest P (f::seen) l<=rest P seen l
 |[]=>bQk _
 |g::l=>by
  have:=aO5 (P:=P) (seen:=seen) f l;simp only[rest,List.contains_cons]
  by_cases h:(g==f)=true<;>by_cases h2:seen.contains g=true<;>simp[h,h2]<;>omega
theorem aNb {P:Program}{seen:List Nat}{f:Nat}(hf:seen.contains f=false): ∀l,f∈l->rest P (f::seen) l+(aEk P f).length<=rest P seen l
 |[],h=>by cases h
 |g::l,h=>by
  have h1:=aO5 (P:=P) (seen:=seen) f l;simp only[rest,List.contains_cons]
  by_cases e:g=f
  ·subst e;simp only[beq_self_eq_true,Bool.true_or,if_true,hf,bQm,if_false];omega
  ·have hm:f∈l:=by
    rcases bRm.1 h with h|h
    ·exact absurd h.symm e
    ·exact h
   have h2:=aNb (P:=P) hf l hm;have:(g==f)=false:=by simpa using e
   simp only[this,bRf];omega
theorem aO6 {P:Program}: ∀(n:Nat) (todo seen:List Nat),todo.length+rest P seen (List.range P.funcs.size)<=n->(∀g∈seen,∀h∈aEk P g,h∈seen \/h∈todo)->
  (∀g,g∈seen \/g∈todo->g∈P.closureVia n todo seen)/\ ∀g∈P.closureVia n todo seen,∀h∈aEk P g,h∈P.closureVia n todo seen
 |0,todo,seen,hn,hi=>by
  have:todo=[]:=bT2.1 (by omega)
  subst this
  refine⟨fun g hg=>?_,fun g hg h hh=>?_⟩
  ·rcases hg with h|h
   ·simpa[Program.closureVia]using h
   ·cases h
  ·have hg':g∈seen:=by simpa[Program.closureVia]using hg
   rcases hi g hg' h hh with h|h
   ·simpa[Program.closureVia]using h
   ·cases h
 |n+1,[],seen,hn,hi=>by
  refine⟨fun g hg=>?_,fun g hg h hh=>?_⟩
  ·rcases hg with h|h
   ·simpa[Program.closureVia]using h
   ·cases h
  ·have hg':g∈seen:=by simpa[Program.closureVia]using hg
   rcases hi g hg' h hh with h|h
   ·simpa[Program.closureVia]using h
   ·cases h
 |n+1,f::todo,seen,hn,hi=>by
  rw[Program.closureVia]
  by_cases hf:seen.contains f=true
  ·rw[if_pos hf];have hfs:f∈seen:=by simpa using hf
   simp only[bQu]at hn;obtain⟨a,b⟩:=aO6 (P:=P) n todo seen (by omega) (fun g hg h hh=>by
    rcases hi g hg h hh with h1|h1
    ·exact .inl h1
    ·rcases bRm.1 h1 with rfl|h1
     ·exact .inl hfs
     ·exact .inr h1)
   refine⟨fun g hg=>a g ?_,b⟩
   rcases hg with h|h
   ·exact .inl h
   ·rcases bRm.1 h with rfl|h
    ·exact .inl hfs
    ·exact .inr h
  ·rw[if_neg hf];have hf':seen.contains f=false:=by simpa using hf
   have hlen:(aEk P f).length+rest P (f::seen) (List.range P.funcs.size)<=rest P seen (List.range P.funcs.size):=by
    by_cases hs:f<P.funcs.size
    ·have:=aNb (P:=P) hf' _ (bRi.2 hs);omega
    ·have:aEk P f=[]:=by unfold aEk;rw[Array.getElem?_eq_none (by omega)];rfl
     rw[this];have:=aO5 (P:=P) (seen:=seen) f (List.range P.funcs.size)
     simpa using this
   simp only[bQu]at hn;obtain⟨a,b⟩:=aO6 (P:=P) n (aEk P f++todo) (f::seen) (by simp only[bQ2];omega) (fun g hg h hh=>by
    rcases bRm.1 hg with rfl|hg
    ·exact .inr (bSu _ hh)
    ·rcases hi g hg h hh with h1|h1
     ·exact .inl (bSo _ h1)
     ·rcases bRm.1 h1 with rfl|h1
      ·exact .inl bTv
      ·exact .inr (bSe _ h1))
   refine⟨fun g hg=>a g ?_,b⟩
   rcases hg with h|h
   ·exact .inl (bSo _ h)
   ·rcases bRm.1 h with rfl|h
    ·exact .inl bTv
    ·exact .inr (bSe _ h)
theorem aRu {P:Program}: ∀(l:List Func) (k:Nat),(∀i,i<l.length->P.funcs[k+i]?=l[i]?)->rest P [] (List.range' k l.length)<=(l.map fun g=>(P.leadsTo g).length+1).sum
 |[],_,_=>bQt _
 |g::l,k,h=>by
  have h0:=h 0 (by simp)
  have ih:=aRu (P:=P) l (k+1) (fun i hi=>by
   have:=h (i+1) (by simp;omega)
   rw[show k+1+i=k+(i+1)by omega,this];rfl)
  simp only[bR5,bS6]at h0;have e:aEk P k=P.leadsTo g:=by unfold aEk;rw[h0];rfl
  simp only[bQu,bTk,rest,e,bRj,List.sum_cons];have:([]:List Nat).contains k=false:=rfl;rw[this];simp only[bQm,if_false];omega
theorem aHg (P:Program)(f:Nat):f∈P.closure f/\ ∀g∈P.closure f,∀h∈aEk P g,h∈P.closure f:=by
 have hr:=aRu (P:=P) P.funcs.toList 0 (fun i _=>by simp)
 rw[<-bTr,bSt]at hr;obtain⟨a,b⟩:=aO6 (P:=P) (1+(P.funcs.toList.map fun g=>(P.leadsTo g).length+1).sum) [f] [] (by simp only[bQu,bQz];omega) (fun g hg=>by cases hg)
 exact⟨a f (.inr bTv),b⟩
variable {fn:Func}
theorem aEl {h:Nat}(hg:g∈P.closure f)(hfn:P.funcs[g]?=some fn)(hh:(P.leadsTo fn).contains h=true):h∈P.closure f:=
 (aHg P f).2 g hg h (by unfold aEk;rw[hfn];simpa using hh)
theorem bHr {q:Func->Nat->Bool}(h:(P.funcs.toList.zipIdx.all fun p=>q p.1 p.2)=true)(hfn:P.funcs[g]?=some fn):q fn g=true:=by
 rw[bQp]at h;exact h (fn,g) (by rw[List.mem_zipIdx_iff_getElem?];simpa using hfn)
def bF7 (P:Program)(good:Nat→Bool):Bool:=P.funcs.toList.zipIdx.all fun p=>(p.1.body.elim [] Code.globalsNamed).isEmpty&&(!good p.2||((P.leadsTo p.1).all good&&!(p.1.ours||p.1.body.isNone||p.1.name== "runtime.NumGoroutine")))
theorem aO7 {good:Nat->Bool}(h:bF7 P good=true)(hf:good f=true):P.inPlace f=[]/\ P.varsNamed f=[]:=by
 have hz:=fun g fn hfn=>bHr (q:=fun a b=>(a.body.elim [] Code.globalsNamed).isEmpty&&(!good b||((P.leadsTo a).all good&&!(a.ours||a.body.isNone||a.name== "runtime.NumGoroutine")))) h (g:=g) (fn:=fn) hfn
 have hg: ∀g∈P.closure f,good g=true:=by
  refine aO4 (P:=P) (G:=fun g=>good g=true) (fun g hg x hx=>?_) _ _ _ (fun g hg=>?_) (fun g hg=>by cases hg)
  ·unfold aEk at hx;cases hfn:P.funcs[g]? with
   |none=>rw[hfn]at hx;cases hx
   |some fn=>
    rw[hfn]at hx;have:=hz g fn hfn;simp only[hg,bQ0,bRf,bQj,bQp]at this;exact this.2.1 x hx
  ·rw[bR3.1 hg];exact hf
 have hodd: ∀g∈P.closure f,∀fn,P.funcs[g]?=some fn→(fn.ours||fn.body.isNone||fn.name== "runtime.NumGoroutine")=false:=fun g h1 fn hfn=>by
  have:=hz g fn hfn;simp only[hg g h1,bQ0,bRf,bQj]at this
  simpa using this.2.2
 constructor
 ·unfold Program.inPlace;rw[List.filterMap_eq_nil_iff];intro g h1;cases hfn:P.funcs[g]? with
  |none=>rfl
  |some fn=>
   simp only[bTe];rw[hodd g h1 fn hfn];rfl
 ·unfold Program.varsNamed;have e1:((P.closure f).flatMap fun g=>((P.funcs[g]?).bind (·.body)).elim [] Code.globalsNamed)=[]:=by
   rw[List.flatMap_eq_nil_iff];intro g h1;cases hfn:P.funcs[g]? with
   |none=>rfl
   |some fn=>
    have:=hz g fn hfn;simp only[bQj,bTn]at this;simp only[bTe];exact this.1
  have e2:((P.closure f).filterMap fun g=>(P.funcs[g]?).bind fun fn=>if fn.body.isNone then entryReads.lookup fn.name else none)=[]:=by
   rw[List.filterMap_eq_nil_iff];intro g h1;cases hfn:P.funcs[g]? with
   |none=>rfl
   |some fn=>
    have:=hodd g h1 fn hfn;simp only[Bool.or_eq_false_iff]at this;simp only[bTe,this.1.2,bQm,if_false]
  rw[e1,e2];rfl
theorem bHs (hg:g∈P.closure f)(hfn:P.funcs[g]?=some fn)(h:(match fn.body with|some c=>c.unfollowed|none=>entryCalls fn)=true):P.unfollowed f=true/\ P.recurses f=true:=by
 have:P.unfollowed f=true:=by
  unfold Program.unfollowed;rw[bTg];exact⟨g,hg,by rw[hfn];exact h⟩
 exact⟨this,by unfold Program.recurses;rw[this];rfl⟩
def orC (m c:bD):bD:=fun f a=>match m f a with
 |some r=>some r
 |none=>c f a
def unC (m c:bD):bD:=fun f a=>match m f a with
 |some _=>none
 |none=>c f a
def aJ0 (L:bG)(m:bD):Nat->aY->St->Option (Ex×St)
 |0=>fun _ _=>none
 |n+1=>sM L (aJ0 L m n) (orC m (bI L 8 (aJ0 L m n))) (unC m (cM L (aJ0 L m n)))
theorem aRv {L:bG}{m:bD}{N:Nat}(hm:CLe m (lH L N)): ∀n,XLe (aJ0 L m n) (exec L (N+n))
 |0=>fun c s r h=>by simp[aJ0]at h
 |n+1=>by
  have ih:=aRv hm n;rw[show N+(n+1)=(N+n)+1 from rfl,aF5]
  refine aV4 ih (fun f a r h=>?_) (fun f a r h=>?_)
  ·unfold orC at h
   split at h
   ·rename_i hq;cases h;exact aAj (by omega) (hm _ _ _ hq)
   ·exact xC ih _ _ _ h
  ·unfold unC at h
   split at h
   ·cases h
   ·exact aRd ih _ _ _ h
structure dW where
 f:Nat
 a:List Val
 r:Val
def aRw :List dW->bD
 |[],_,_=>none
 |e::l,f,a=>if e.f=f then(if qV (rN 50) e.a a=true then some e.r else aRw l f a)else aRw l f a
def fF (L:bG)(l:List dW):Prop:= ∃N,CLe (aRw l) (lH L N)
theorem fF.nil {L:bG}:fF L []:=⟨0,fun _ _ _ h=>by simp[aRw]at h⟩
theorem fF.pc {L:bG}{l:List dW}(h:fF L l){n:Nat}{a:List Val}(hr:bI L 8 (aJ0 L (aRw l) n) f a=some r):PC L f a r:=by
 obtain⟨N,hN⟩:=h;exact bG8 (xC (aRv hN n) _ _ _ hr)
theorem fF.add {L:bG}{l:List dW}(h:fF L l){a:List Val}(hr:PC L f a r):fF L (⟨f,a,r⟩::l):=by
 obtain⟨N,hN⟩:=h;obtain⟨M,hM⟩:=hr
 refine⟨N+M,fun g b q hq=>?_⟩
 simp only[aRw]at hq
 split at hq
 ·rename_i e1
  split at hq
  ·rename_i e2;cases hq;subst e1;cases aDr (aDs 50) e2;exact hM _ (by omega)
  ·exact aAj (by omega) (hN _ _ _ hq)
 ·exact aAj (by omega) (hN _ _ _ hq)
theorem fF.step {L:bG}{e:dW}{l:List dW}(h:fF L l)(hr:bI L 8 (aJ0 L (aRw l) 1000) e.f e.a=some e.r):fF L (e::l):=h.add (h.pc hr)
theorem fF.one {L:bG}{e:dW}{l:List dW}(h:fF L (e::l)):fF L [e]:=by
 obtain⟨N,hN⟩:=h
 refine⟨N,fun f a r hr=>hN f a r ?_⟩
 simp only[aRw]at hr⊢
 split at hr
 ·rename_i e1
  split at hr
  ·rename_i e2;rw[if_pos e1,if_pos e2];exact hr
  ·cases hr
 ·cases hr
end Go.Abs
