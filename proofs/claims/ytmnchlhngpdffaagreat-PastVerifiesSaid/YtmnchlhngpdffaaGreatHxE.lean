/- The interpreter of the translated code, and its proof: part E. -/
import Derived.Test.YtmnchlhngpdffaaGreatHxD
import Derived.ChangeArms
import Derived.ChangeBears
import Derived.JoinedOf
import Derived.KernelRfl
set_option linter.all false
open Array renaming getD_eq_getD_getElem? → bOl, getElem?_eq_some_iff → bPv, length_toList → bQc
open Bool renaming and_eq_true → bN8, false_eq_true → bOa, false_or → bO6, not_eq_true → bPf, not_eq_true' → bPg, not_true → bOn, or_eq_true → bPe
open List renaming all_eq_true → bOe, any_eq_true → bQ8, append_nil → bPa, drop_zero → bQf, getD_cons_zero → bQ3, getD_eq_getElem?_getD → bOd, getElem?_append → bQw, getElem?_cons_zero → bQn, getElem?_eq_getElem → bPh, getElem?_eq_some_iff → bRp, getElem_mem → bOg, isEmpty_iff → bQ6, length_append → bOr, length_cons → bOh, length_eq_zero_iff → bRn, length_nil → bOo, map_congr_left → bQe, map_cons → bO4, map_nil → bOq, mem_append → bO2, mem_append_left → bQ4, mem_append_right → bQt, mem_cons → bO8, mem_cons_of_mem → bP8, mem_cons_self → bRi, mem_flatMap → bPq, mem_map → bO5, mem_range → bO7, mem_singleton → bPm, nil_append → bPb, range'_succ → bQ5, range_eq_range' → bRc, take_zero → bOm
open Nat renaming add_zero → bPo, le_refl → bN9, zero_le → bOf
open Option renaming bind_eq_some_iff → bOi, bind_some → bQz, getD_some → bOz, isNone_iff_eq_none → bQ7, isSome_none → bQb
open Option.some renaming injEq → bN7
namespace Go.Abs
def jY (L:bG):List aM->St->(St->List Res->Prop)->Prop
 |[],st,Q=>Q st []
 |o::l,st,Q=>nH L st o fun st' r=>jY L l st' fun s rs=>Q s ({r with v:= .dead}::rs)
theorem wF {L:bG}(l:List aM): ∀{st:St} {Q R:St->List Res->Prop},qQ L l st Q->(∀s rs,Q s rs->R s rs)->qQ L l st R:=by
 induction l with
 |nil=>intro st Q R h k;exact k _ _ h
 |cons o l ih=>intro st Q R h k;exact kY h fun s r hs=>ih hs fun s rs hq=>k _ _ hq
def lF :List Res->List Res->Prop
 |[],[]=>True
 |a::l,b::m=>(a={b with v:= .dead})/\ lF l m
 |_,_=>False
theorem zN {L:bG}: ∀(l:List aM) {st:St} {Q:St->List Res->Prop},jY L l st Q->qQ L l st fun st' rs=> ∃fs,lF fs rs/\ Q st' fs
 |[],st,Q,h=>⟨[],trivial,h⟩
 |o::l,st,Q,h=>by
  refine kY h fun s r h2=>?_
  refine wF l (zN l h2) fun s rs ⟨fs,k1,k2⟩=>⟨{r with v:= .dead}::fs,(show lF ({r with v:= .dead}::fs) (r::rs)from⟨rfl,k1⟩),k2⟩
theorem zO : ∀{fs rs:List Res},lF fs rs-> ∀(i:Nat),(fs[i]?=none/\ rs[i]?=none) \/ ∃b,fs[i]?=some {b with v:= .dead}/\ rs[i]?=some b
 |[],[],_,i=> .inl ⟨rfl,rfl⟩
 |a::l,b::m,h,0=> .inr ⟨b,by rw[<-h.1];rfl,rfl⟩
 |a::l,b::m,h,i+1=>by simpa using zO h.2 i
 |[],_::_,h,_=>h.elim
 |_::_,[],h,_=>h.elim
variable {rs fs:List Res}
theorem tI (h:lF fs rs)(pairs:List (Nat×Nat))(hp:dG fs pairs=true):dG rs pairs=true:=by
 unfold dG at hp⊢
 refine bOe.2 fun p hm=>?_
 have:=bOe.1 hp p hm;rcases zO h p.1 with⟨a1,_⟩|⟨b,a1,a2⟩
 ·rw[a1]at this;cases this
 rcases zO h p.2 with⟨c1,_⟩|⟨d,c1,c2⟩
 ·rw[a1,c1]at this;cases this
 rw[a1,c1]at this;rw[a2,c2];exact this
variable {pairs:List (Nat×Nat)}{l:List aM}{st:St}
theorem aJ {L:bG}{R:Ex->St->Prop}
  (h:jY L l st fun st' rs=>dG rs pairs=true/\ R .normal st'):Wp L (.draw l pairs) st R:=by
 simp only[Wp];have hr:=zN l h;split
 ·have: ∀(l:List aM) {st:St} {Q:St->List Res->Prop} {R:St->Prop},qQ L l st Q->(∀s rs,Q s rs->R s)->iM L l st R:=by
   intro l
   induction l with
   |nil=>intro st Q R h k;exact k _ _ h
   |cons o l ih=>intro st Q R h k;exact kY h fun s r hs=>ih hs fun s rs hq=>k _ _ hq
  exact this l hr fun s rs ⟨_,_,h⟩=>h.2
 ·exact wF l hr fun s rs ⟨fs,h1,h2,h3⟩=>⟨tI h1 _ h2,h3⟩
variable {u:Key->Bool}{v:Val}{ws:List W}{op:LOp}{args:List Opd}{t d:Nat}{x:Opd}{fr:Nat->Val}{cnt:Nat->Nat->Nat}{en:En}{dst:Option Nat}
section
variable {L :bG}{Q:St->List Res->Prop}
@[congr] theorem bC0 :jY L l st Q=jY L l st Q:=(rfl)
@[go_sem] theorem bMb (st:St):jY L [] st Q=Q st []:=(rfl)
def yH (L:bG)(l:List aM)(dst:Option Nat)(fr:Nat->Val)(en:En)(cnt:Nat->Nat->Nat)(Q:St->List Res->Prop):Option Res->Prop
 |some r=>(r.bump&&dst.isNone)=false/\ jY L l ⟨gH fr dst r.v,W.applyAll en r.ws,if r.bump then aC cnt 0 (dst.getD 0) (cnt 0 (dst.getD 0)+1)else cnt⟩ fun s rs=>Q s ({r with v:= .dead}::rs)
 |none=>False
@[congr] theorem bC1 {r r':Option Res}(h:r=r'):yH L l dst fr en cnt Q r=yH L l dst fr en cnt Q r':=by rw[h]
@[go_sem] theorem aSq {rs:List R}:
  yH L l dst fr en cnt Q (some ⟨v,ws,rs,false,none,u⟩)=jY L l ⟨gH fr dst v,W.applyAll en ws,cnt⟩ fun s fs=>Q s ({v:= .dead,ws:=ws,rs:=rs,unch:=u}::fs):=by simp[yH]
@[go_sem] theorem aIv {rs:List R}:
  yH L l (some d) fr en cnt Q (some ⟨v,ws,rs,true,none,u⟩)=jY L l ⟨jB fr d v,W.applyAll en ws,aC cnt 0 d (cnt 0 d+1)⟩ fun s fs=>Q s ({v:= .dead,ws:=ws,rs:=rs,bump:=true,unch:=u}::fs):=by simp[yH,gH]
@[go_sem] theorem bEt :yH L l dst fr en cnt Q none=False:=(rfl)
theorem aSr (h:op.plain=true):jY L (⟨dst,op,none⟩::l) ⟨fr,en,cnt⟩ Q=yH L l dst fr en cnt Q (cO (dst.getD 0) (cnt 0 (dst.getD 0)) en (St.get fr) op):=by
 cases op<;>first|(simp[LOp.plain]at h;done)|rfl|(simp only[jY,nH,wanted,WOp,yH];rfl)
@[go_sem] theorem bKd (h:op.plain=true):jY L (⟨some d,op,none⟩::l) ⟨fr,en,cnt⟩ Q=yH L l (some d) fr en cnt Q (cO d (cnt 0 d) en (St.get fr) op):=aSr h
@[go_sem] theorem bKe (h:op.plain=true):jY L (⟨none,op,none⟩::l) ⟨fr,en,cnt⟩ Q=yH L l none fr en cnt Q (cO 0 (cnt 0 0) en (St.get fr) op):=aSr h
@[go_sem] theorem bKf {f:Opd}:jY L (⟨dst,.call f args,none⟩::l) ⟨fr,en,cnt⟩ Q=
  aBn L en (St.get fr f) (args.map (St.get fr)) fun r ks=>yH L l dst fr en cnt Q (some (fY 0 (dst.getD 0) (cnt 0 (dst.getD 0)) r ks)):=by
 simp only[jY,nH,wanted,WOp,aBn,aF6,aPq];cases St.get fr f<;>first|rfl|skip
@[go_sem] theorem bHz {f:Opd}:jY L (⟨dst,.icall f args,none⟩::l) ⟨fr,en,cnt⟩ Q=
  WIn L (St.get fr f) (args.map (St.get fr)) en cnt fun v en' cnt'=>jY L l ⟨gH fr dst v,en',cnt'⟩ fun s fs=>Q s ({v:= .dead,mem:=some (en',cnt'),unch:=fun k=>aOo (en k) (en' k)}::fs):=(rfl)
theorem aVl {b:Bool}:jY L (⟨dst,op,some (t,b)⟩::l) ⟨fr,en,cnt⟩ Q=
  nR (fr t) b (jY L (⟨dst,op,none⟩::l) ⟨fr,en,cnt⟩ Q) (jY L l ⟨gH fr dst (.tup []),en,cnt⟩ fun s fs=>Q s ({v:= .dead}::fs)) .mk:=by
 simp only[jY,nH,wanted,nR,pB]
 split<;>rename_i h
 ·split at h
  ·rename_i b' hb;simp only[bN7]at h;simp only[hb,h,if_true]
  ·cases h
  ·cases h
 ·split at h
  ·rename_i b' hb;simp only[bN7]at h;simp only[hb,h,bOa,if_false,true_and]
  ·rename_i hb;simp only[hb,true_and]
  ·cases h
 ·split at h
  ·cases h
  ·cases h
  ·rename_i h1 h2;split
   ·rename_i b' hb;exact absurd hb (h1 _)
   ·rename_i hb;exact absurd hb h2
   ·rfl
theorem aVm {y:Opd}{size:Nat}{xs ys:List Val}{rs:List R}{D:List Nat}(hx:iZ en (St.get fr x) size xs D)(hy:iC en (St.get fr y)=some (ys,rs))(h1:cP size ys=true)(hrs:rs=[])
  (hl:xs.length+ys.length<=16777216)
  (k: ∀v en' cnt' r,iZ en' v size (xs++ys) (d::D)->(∀n t g,n≠0 \/(t≠d/\ t∉D)->en' ⟨n,t,g⟩=en ⟨n,t,g⟩)->(∀n t,t≠d->cnt' n t=cnt n t)->
   (∀w∈(r:Res).ws,w.key.n=0/\ (w.key.t=d \/w.key.t∈D)/\ ∃e,w= .ent w.key e)->(∀ρ∈r.rs,ρ.key.n=0/\ ρ.key.t∈D)->r.mem=none->jY L l ⟨jB fr d v,en',cnt'⟩ fun s fs=>Q s ({r with v:= .dead}::fs)):
  jY L (⟨some d,.append size x y,none⟩::l) ⟨fr,en,cnt⟩ Q:=by
 subst hrs;rw[aSr (by rfl)]
 simp only[bOz];rcases hx with⟨hv,rfl⟩|⟨t,g,f,hv,he,ht⟩
 ·simp only[cO,eval,fD,hy,h1,if_true,hv]
  by_cases hys:ys.isEmpty=true
  ·have:ys=[]:=by simpa using hys
   subst this;simp only[List.isEmpty_nil,if_true,aSq,fF];exact k _ _ _ {v:= .dead} (.inl ⟨rfl,rfl⟩) (fun _ _ _ _=>rfl) (fun _ _ _=>rfl) (by simp) (by simp) rfl
  ·rw[if_neg hys,if_pos ⟨by simpa using hl,rfl⟩]
   simp only[aIv,jS,fF,wE]
   refine k _ _ _ {v:= .dead,ws:=[.ent ⟨0,d,cnt 0 d⟩ _],rs:=[],bump:=true} (.inr ⟨d,cnt 0 d,false,by simp,by simp[En.set],by simp⟩) (fun n t g h=>pU (fun he=>?_)) (fun n t h=>by simp[aC,h]) (by simp[W.key]) (by simp) rfl
   injection he with h3 h4 h5
   rcases h with h|⟨h,_⟩
   ·exact h h3
   ·exact h h4
 ·simp only[cO,eval,fD,aIs,hy,h1,if_true,hv,he];rw[if_pos ⟨.inl (by simp),hl,trivial,fun h=>by cases h⟩]
  simp only[aIv,jS,fF,wE]
  refine k _ _ _ {v:= .dead,ws:=[.ent ⟨0,t,g⟩ none,.ent ⟨0,d,cnt 0 d⟩ _],rs:=[.val ⟨0,t,g⟩,.flag ⟨0,t,g⟩],bump:=true} (.inr ⟨d,cnt 0 d,f,by simp,?_,by simp⟩) (fun n t' g' h=>?_) (fun n t h=>by simp[aC,h]) (by simp[W.key,ht]) (by simp[R.key,ht]) rfl
  ·simp[En.set]
  ·have e1:(⟨n,t',g'⟩:Key)≠⟨0,d,cnt 0 d⟩:=by
    intro he;injection he with h3 h4 h5;rcases h with h|⟨h,_⟩
    ·exact h h3
    ·exact h h4
   have e2:(⟨n,t',g'⟩:Key)≠⟨0,t,g⟩:=by
    intro he;injection he with h3 h4 h5;subst h4;rcases h with h|⟨_,h⟩
    ·exact h h3
    ·exact h ht
   rw[pU e1,pU e2]
end
variable {k:Key}{e:Option Ent}
theorem aYh {ρ:R}:jH (.ent k e) ρ=decide (k≠ρ.key):=by cases ρ<;>rfl
variable {k':Key}{vs:List Val}
theorem aYi {o:Nat}:jH (.cells k o vs) (.val k')=decide (k≠k'):=rfl
theorem aYj {o:Nat}:jH (.cells k o vs) (.flag k')=true:=rfl
variable {n o':Nat}
theorem aYk {o:Nat}:jH (.cells k o vs) (.cells k' o' n)=(decide (k≠k')||decide (o+vs.length<=o')||decide (o'+n<=o)):=rfl
theorem aYl {w:W}:lV (.ent k e) w=decide (k≠w.key):=by cases w<;>rfl
theorem aYm {o:Nat}:lV (.cells k o vs) (.ent k' e)=decide (k≠k'):=rfl
theorem aYn {o:Nat}{vs':List Val}:lV (.cells k o vs) (.cells k' o' vs')=(decide (k≠k')||decide (o+vs.length<=o')||decide (o'+vs'.length<=o)):=rfl
variable {g:Nat}
theorem bH0 {n' t' g':Nat}(h:t≠t'):((⟨n,t,g⟩:Key)≠⟨n',t',g'⟩)=True:=by simp[h]
attribute [go_sem] dG aCv aYh aYi aYj aYk aYl aYm aYn bH0 W.key R.key bQb aVl
def mG (P:Program)(F:TypeId->List Val->Prop):List Field->List Val->Prop
 |[],vs=>vs=[]
 |f::fs,vs=> ∃a b,vs=a++b/\ a.length=P.cellsOf f.type/\ F f.type a/\ mG P F fs b
def rI (P:Program)(t:TypeId)(vs:List Val):Val:=if cQ P t then .agg vs else vs.getD 0 .dead
def jA (P:Program):Nat->TypeId->List Val->Prop
 |0,_,_=>False
 |n+1,t,vs=>
  match P.underlying t with
  |some .bool=> ∃b,vs=[.bool b]
  |some (.int k)=> ∃i,vs=[.int k i]/\ (Lit.int k i).wf=true
  |some .string=> ∃s:ByteArray,vs=[.str s]/\ s.size<=maxLen
  |some (.slice e)=> ∃xs:List (List Val),vs=[.fz (xs.map (rI P e))]/\ xs.length<=maxLen/\ ∀x∈xs,jA P n e x
  |some (.struct fs)=>mG P (jA P n) fs.toList vs
  |_=>True
def aPu (P:Program)(S:TypeId->Bool):Bool:=(List.range P.types.size).all fun t=>!S t||match P.underlying t with
 |some (.slice e)=>P.cellsOf e !=0&&S e
 |some (.struct fs)=>fs.toList.all fun f=>S f.type
 |some (.array ..)=>false
 |_=>true
def aIw (w:World):Nat->Nat->Prop:=fun b _=>b<w.heap.size
variable {c:Value}{a b:List Val}{w:World}{P:Program}
section
variable {H :Type}{enc:TypeId×Value->H}{sp:Nat->Bool}
def lG (w:World)(vs:List Val)(cs:List Value):Prop:=
 vs.length=cs.length/\ ∀i,i<cs.length->fE (cs.getD i undef)=true/\ VR (aIw w) Gh.none w (vs.getD i .dead) (cs.getD i undef)
theorem lG.nil :lG w [] []:=⟨rfl,fun i hi=>by simp at hi⟩
theorem lG.one (h:VR (aIw w) Gh.none w v c)(ho:fE c=true):lG w [v] [c]:=by
 refine⟨rfl,fun i hi=>?_⟩
 have:i=0:=by simp at hi;omega
 subst this;exact⟨ho,h⟩
theorem lG.append {c d:List Value}(h:lG w a c)(k:lG w b d):lG w (a++b) (c++d):=by
 refine⟨by simp[h.1,k.1],fun i hi=>?_⟩
 simp only[bOd,bQw];rw[h.1];split
 ·rename_i hlt;have:=h.2 i hlt;simpa[bOd]using this
 ·have:=k.2 (i-c.length) (by simp at hi;omega);simpa[bOd]using this
theorem not_agg (h:VR (aIw w) Gh.none w v c)(ho:fE c=true):v.cells=[v]/\ v.one=true:=by
 cases h<;>first|exact⟨rfl,rfl⟩|(simp[fE]at ho)
theorem aF9 (n:Nat)(F:TypeId->List Val->Prop): ∀(fs:List Field) (cs:List Value),cs.length=(fs.map fun f=>P.cellsOf f.type).sum->
  (∀(j:Nat) f,fs[j]?=some f-> ∃vs,F f.type vs/\ lG w vs ((cs.drop ((fs.take j).map fun f=>P.cellsOf f.type).sum).take (P.cellsOf f.type)))->
  ∃vs,mG P F fs vs/\ lG w vs cs
 |[],cs,hl,_=>by
  have:cs=[]:=by simpa using hl
  subst this;exact⟨[],rfl,lG.nil⟩
 |f::fs,cs,hl,h=>by
  simp only[bO4,List.sum_cons]at hl;obtain⟨a,ha,hra⟩:=h 0 f rfl;simp only[bOm,bOq,List.sum_nil,bQf]at hra;obtain⟨b,hb,hrb⟩:=aF9 n F fs (cs.drop (P.cellsOf f.type)) (by simp;omega) (fun j g hj=>by
   obtain⟨vs,h1,h2⟩:=h (j+1) g (by simpa using hj)
   refine⟨vs,h1,?_⟩
   simpa[List.drop_drop]using h2)
  refine⟨a++b,⟨a,b,rfl,?_,ha,hb⟩,?_⟩
  ·rw[hra.1];simp;omega
  ·have:=lG.append hra hrb
   rwa [List.take_append_drop]at this
theorem aPv (b o i:Nat):(⟨b,o,none⟩:Addr).add i=⟨b,o+i,none⟩:=by
 unfold Addr.add;split
 ·rename_i h;subst h;rfl
 ·rfl
theorem sJ {a:Addr}{cs:List Value}(h:w.cells? 0 a n=some cs):cs.length=n/\ ∀j,j<n->w.cell? (a.add j)=some (cs.getD j undef):=by
 unfold World.cells? at h;rw[if_pos (bOf _)]at h;have h1:=mapM_some_length h
 refine⟨by simpa using h1,fun j hj=>?_⟩
 have h2:=mapM_some_get h j j (by simp[hj])
 rw[h2];have:j<cs.length:=by rw[h1];simpa using hj
 simp[bOd,this]
theorem aVn (hl:laidOutB P=true)(S:TypeId->Bool)(hz:aPu P S=true): ∀(fuel:Nat) (t:TypeId) (cs:List Value) (x:DataW H×List MemPlace),t<P.types.size->S t=true->DataW.trod enc P w 0 sp true fuel t cs=some x->
  ∃vs,jA P fuel t vs/\ lG w vs cs:=by
 intro fuel
 induction fuel with
 |zero=>intro t cs x _ _ h;simp[DataW.trod]at h
 |succ n ih=>
  intro t cs x ht hs h;have hz0:=bOe.1 hz t (bO7.2 ht);simp only[hs,bOn,bO6]at hz0;cases hu:P.underlying t with
  |none=>simp[DataW.trod,hu]at h
  |some u=>
   have dead: ∀c:Value,cs=[c]->fE c=true-> ∃vs:List Val,True/\ lG w vs cs:=by
    rintro c rfl ho;exact⟨[.dead],trivial,lG.one (.dead c ho) ho⟩
   have gen:(∃c,cs=[c]/\ fE c=true)->(match u with| .bool| .int _| .string| .slice _| .struct _| .array .. =>False|_=>True)-> ∃vs,jA P (n+1) t vs/\ lG w vs cs:=by
    rintro⟨c,rfl,ho⟩ hk
    refine⟨[.dead],?_,lG.one (.dead c ho) ho⟩
    simp only[jA,hu];cases u<;>first|trivial|exact hk.elim
   cases u with
   |bool=>
    simp only[DataW.trod,hu]at h
    split at h<;>first|(cases h;done)|skip
    all_goals first|(rename_i h1;cases h1;done)|skip
    rename_i b h1;exact⟨[.bool b],by simp only[jA,hu];exact⟨b,rfl⟩,lG.one (.bool b) rfl⟩
   |int k=>
    simp only[DataW.trod,hu]at h
    split at h<;>first|(cases h;done)|skip
    all_goals first|(rename_i h1;cases h1;done)|skip
    rename_i k0 k' i h1;cases h1
    split at h
    ·rename_i hk;obtain⟨rfl,hw⟩:=hk;exact⟨[.int _ i],by simp only[jA,hu];exact⟨i,rfl,hw⟩,lG.one (.int _ i) rfl⟩
    ·cases h
   |string=>
    simp only[DataW.trod,hu]at h
    split at h<;>first|(cases h;done)|skip
    all_goals first|(rename_i h1;cases h1;done)|skip
    rename_i s h1
    split at h
    ·rename_i hs;exact⟨[.str s],by simp only[jA,hu];exact⟨s,rfl,hs⟩,lG.one (.str s) rfl⟩
    ·cases h
   |slice e=>
    simp only[hu,bN8]at hz0;have he:P.cellsOf e≠0:=by simpa using hz0.1
    have hSe:S e=true:=hz0.2;have hke:e<P.types.size:=kid_slice hl ht hu;rcases DataW.trod_slice hu h with⟨rfl,rfl⟩|⟨a,len,cap,elems,iT,m,hm,rfl,rfl,_,hlc,hcm,hel,hall⟩
    ·exact⟨[.fz []],by simp only[jA,hu];exact⟨[],rfl,bOf _,by simp⟩,lG.one (.fz0 _ _) rfl⟩
    ·cases hm
     replace hall:=hall.1
     have each: ∀i,i<len-> ∃csi vsi,w.cells? 0 (a.add (i*P.cellsOf e)) (P.cellsOf e)=some csi/\ jA P n e vsi/\ lG w vsi csi:=by
      intro i hi;have h1:=hall i hi;have hlt:i<elems.length:=by omega
      rw[bPh hlt]at h1;simp only[bOi]at h1;obtain⟨csi,h2,h3⟩:=h1;obtain⟨vsi,h4,h5⟩:=ih e csi _ hke hSe h3;exact⟨csi,vsi,h2,h4,h5⟩
     let C (i:Nat):List Value:=if hi:i<len then(each i hi).choose else []
     let V (i:Nat):List Val:=if hi:i<len then(each i hi).choose_spec.choose else []
     have hCV: ∀i,i<len->w.cells? 0 (a.add (i*P.cellsOf e)) (P.cellsOf e)=some (C i)/\ jA P n e (V i)/\ lG w (V i) (C i):=by
      intro i hi;have:=(each i hi).choose_spec.choose_spec;simp only[C,V,dif_pos hi];exact this
     have hpk: ∀i,i<len->(rI P e (V i)).cells=V i:=by
      intro i hi;obtain⟨h1,h2,h3⟩:=hCV i hi;unfold rI;split
      ·rfl
      ·rename_i hagg;have hlen:(V i).length=1:=by
        rw[h3.1,(sJ h1).1];have hr:=rowFine_of hl hke;unfold cQ at hagg;have hvar:isVar P e=true:=by
         have:=rowFine_of hl ht;simp only[rowFine,hu]at this;have hv:isVar P t=true:=by simp[isVar,ht,hu,kindOk]
         simp only[hv,bOn,bO6,bN8]at this;exact this.1
        simp only[rowFine,hvar,bOn,bO6]at hr
        split at hr<;>first|(rename_i h';rw[h']at hagg;simp at hagg;done)|(simp only[bN8,beq_iff_eq]at hr;exact hr.2)|(simpa using hr)
       obtain⟨v,hv⟩:=List.length_eq_one_iff.1 hlen;have h4:=h3.2 0 (by rw[<-h3.1,hlen];omega)
       rw[hv]at h4⊢;simp only[bQ3]at h4⊢;exact(not_agg h4.2 h4.1).1
     refine⟨[.fz ((List.range len).map fun i=>rI P e (V i))],?_,?_⟩
     ·simp only[jA,hu]
      refine⟨(List.range len).map V,by simp[Function.comp_def],by simp;omega,fun x hx=>?_⟩
      obtain⟨i,hi,rfl⟩:=bO5.1 hx;exact(hCV i (by simpa using hi)).2.1
     ·refine lG.one ?_ rfl
      by_cases h0:len=0
      ·subst h0;exact .fz0 _ _
      ·have hsp:a.spot=none:=by
        have:=(sJ (hCV 0 (by omega)).1).2 0 (by omega)
        unfold World.cell? at this
        split at this
        ·rename_i hh
         split at this
         ·cases this
         ·rename_i hs;simpa[Addr.add]using hs
        ·cases this
       obtain⟨blk,off,spt⟩:=a
       simp only at hsp
       subst hsp;have hg: ∀i,i<len->((List.range len).map fun i=>rI P e (V i)).getD i .dead=rI P e (V i):=by
        intro i hi;simp[bOd,hi]
       have hcell: ∀i j,i<len->j<P.cellsOf e->w.cell? ⟨blk,off+i*P.cellsOf e+j,none⟩=some ((C i).getD j undef):=by
        intro i j hi hj;have:=(sJ (hCV i hi).1).2 j hj;rw[aPv,aPv]at this;exact this
       have:=VR.fz (T:=aIw w) (G:=Gh.none) (w:=w) ((List.range len).map fun i=>rI P e (V i)) blk off (P.cellsOf e) cap (fun i j=>(C i).getD j undef)
        (by simpa using hlc) (fun i hi=>by
         have hi':i<len:=by simpa using hi
         rw[hg i hi',hpk i hi',(hCV i hi').2.2.1,(sJ (hCV i hi').1).1])
        (fun i j hi hj=>hcell i j (by simpa using hi) hj)
        (fun i j hi hj=>by
         have:=hcell i j (by simpa using hi) hj
         unfold World.cell? at this
         split at this
         ·rename_i hh;exact(bPv.1 hh).1
         ·cases this)
        (fun i j hi hj=>by
         have hi':i<len:=by simpa using hi
         exact((hCV i hi').2.2.2 j (by rw[(sJ (hCV i hi').1).1];exact hj)).1)
        (fun i j hi hj=>by
         have hi':i<len:=by simpa using hi
         rw[hg i hi',hpk i hi'];exact((hCV i hi').2.2.2 j (by rw[(sJ (hCV i hi').1).1];exact hj)).2)
       simpa using this
   |struct fs=>
    obtain⟨xs,m,hm,_,hlen,hxl,hall⟩:=DataW.trod_struct hu h;cases hm;obtain⟨k1,k2,k3⟩:=kid_struct hl ht hu;obtain⟨vs,h1,h2⟩:=aF9 (P:=P) (w:=w) n (jA P n) fs.toList cs (by rw[hlen,k2]) (fun j f hj=>by
     have h3:=hall j f (by simpa using hj)
     have hj':j<xs.length:=by rw[hxl];exact(by simpa using(bRp.1 hj).1)
     rw[bPh hj']at h3;rw[k3 j f hj]at h3;exact ih _ _ _ (k1 f (List.mem_of_getElem? hj)) (by simp only[hu]at hz0;exact bOe.1 hz0 f (List.mem_of_getElem? hj)) h3)
    exact⟨vs,by simp only[jA,hu];exact h1,h2⟩
   |array k e=>
    simp[hu]at hz0
   |_=>
    refine gen ?_ trivial
    simp only[DataW.trod,hu]at h
    first
    |(cases h;done)
    |(split at h<;>first|(cases h;done)|exact⟨_,rfl,rfl⟩|(rename_i h1;cases h1;done)|(rename_i h1 _;cases h1;done))
end
section
variable {t:TypeId}
theorem iI {k:IntKind}(hu:P.underlying t=some (.int k))(h:jA P (n+1) t vs): ∃i,vs=[.int k i]:=by
 simp only[jA,hu]at h;obtain⟨i,h,_⟩:=h;exact⟨i,h⟩
theorem aPw (hu:P.underlying t=some .string)(h:jA P (n+1) t vs): ∃s:ByteArray,vs=[.str s]/\ Few s.size:=by
 simp only[jA,hu]at h;obtain⟨s,h,k⟩:=h;exact⟨s,h,by unfold Few;unfold maxLen at k;omega⟩
theorem aT6 {α:Type}(enc:α->Val)(Q:α->Prop)(f:List Val->Val): ∀(xs:List (List Val)),(∀x∈xs,∃a,f x=enc a/\ Q a)-> ∃l:List α,xs.map f=l.map enc/\ l.length=xs.length/\ ∀a∈l,Q a
 |[],_=>⟨[],rfl,rfl,by simp⟩
 |x::xs,h=>by
  obtain⟨a,ha,hq⟩:=h x (by simp)
  obtain⟨l,h1,h2,h3⟩:=aT6 enc Q f xs fun y hy=>h y (by simp[hy])
  exact⟨a::l,by simp[ha,h1],by simp[h2],fun b hb=>by rcases bO8.1 hb with rfl|hb;exact hq;exact h3 b hb⟩
theorem jT {α:Type}(enc:α->Val)(Q:α->Prop){e:TypeId}(hu:P.underlying t=some (.slice e))(hel: ∀x,jA P n e x-> ∃a,rI P e x=enc a/\ Q a)(h:jA P (n+1) t vs):
  ∃l:List α,vs=[.fz (l.map enc)]/\ Few l.length/\ ∀a∈l,Q a:=by
 simp only[jA,hu]at h;obtain⟨xs,h,hl,hx⟩:=h;obtain⟨l,h1,h2,h3⟩:=aT6 enc Q (rI P e) xs fun x hm=>hel x (hx x hm)
 exact⟨l,by rw[h,h1],by rw[h2];unfold Few;unfold maxLen at hl;omega,h3⟩
theorem gZ {fs:Array Field}(hu:P.underlying t=some (.struct fs))(h:jA P (n+1) t vs):mG P (jA P n) fs.toList vs:=by
 simp only[jA,hu]at h;exact h
theorem aGa {F F':TypeId->List Val->Prop}(h: ∀t vs,F t vs->F' t vs): ∀(fs:List Field) (vs:List Val),mG P F fs vs->mG P F' fs vs
 |[],vs,k=>k
 |f::fs,vs,⟨a,b,h1,h2,h3,h4⟩=>⟨a,b,h1,h2,h _ _ h3,aGa h fs b h4⟩
theorem aE8 : ∀(n:Nat) (t:TypeId) (vs:List Val),jA P n t vs->jA P (n+1) t vs
 |0,t,vs,h=>by simp[jA]at h
 |n+1,t,vs,h=>by
  rw[jA]at h⊢;split
  ·rename_i hu;rw[hu]at h;exact h
  ·rename_i hu;rw[hu]at h;exact h
  ·rename_i hu;rw[hu]at h;exact h
  ·rename_i hu;rw[hu]at h;obtain⟨xs,h1,h2,h3⟩:=h;exact⟨xs,h1,h2,fun x hx=>aE8 n _ _ (h3 x hx)⟩
  ·rename_i hu;rw[hu]at h;exact aGa (aE8 n) _ _ h
  ·trivial
theorem aVo (k:Nat)(h:jA P n t vs):jA P (n+k) t vs:=by
 induction k with
 |zero=>exact h
 |succ k ih=>exact aE8 _ _ _ ih
theorem aNb {x:Array Value}(h:lG w vs x.toList):VR (aIw w) Gh.none w (.agg vs) (.agg x):=by
 have e: ∀i,x.getD i undef=x.toList.getD i undef:=by
  intro i;simp[bOl,bOd]
 have hl:vs.length=x.size:=by simpa using h.1
 refine .agg vs x hl.symm (fun i hi=>?_) fun i hi=>?_
 ·rw[e];exact(h.2 i (by rw[bQc];omega)).1
 ·rw[e];exact(h.2 i (by rw[bQc];omega)).2
end
theorem cU {L:bG}{R:Ex->St->Prop}(h:iM L l st (R .normal)):Wp L (.opsP l) st R:= .inl h
theorem eX {L:bG}{R:Ex->St->Prop}(k:Nat){o:aM}(hk:l[k]?=some o)(h:iM L (l.take k) st fun st1=>kJ L o st1 fun v st2=>R (.panic v) st2):Wp L (.opsP l) st R:= .inr ⟨k,o,hk,h⟩
variable {an:List (List Nat)}
theorem kL {L:bG}{R:Ex->St->Prop}
  (h:jY L l st fun st' rs=>dG rs pairs=true/\ R .normal st'):Wp L (.drawP l an pairs) st R:=
 .inl (wF l (zN l h) fun s rs ⟨fs,h1,h2,h3⟩=>⟨tI h1 _ h2,h3⟩)
theorem aT7 {L:bG}: ∀(l:List aM) {st:St} {Q:St->List Res->Prop} {R:St->Prop},qQ L l st Q->(∀s rs,Q s rs->R s)->iM L l st R
 |[],st,Q,R,h,k=>k _ _ h
 |o::l,st,Q,R,h,k=>kY h fun s r hs=>aT7 l hs fun s rs hq=>k _ _ hq
def mvC (o:aM):Bool:=o.guard.isNone&&(match o.op with| .mv (.c _)=>true|_=>false)
def aDl (an:List (List Nat))(j:Nat)(l:List aM):Bool:=
 (List.range l.length).all fun i=>if i<j then !behind an j i&&!yD an j l i else behind an j i||((yD an j l i||mvC (l.getD i default))&&(l.getD i default).dst.all fun d=>!(l.getD j default).uses.contains d)
def aCe (an:List (List Nat))(j:Nat)(l:List aM):List aM:=(List.range (l.length-j)).map fun i=>(cT an j l).getD (j+i) default
variable {j:Nat}
theorem aYo (h:aDl an j l=true)(hj:j<=l.length):cT an j l=l.take j++aCe an j l:=by
 refine List.ext_getElem (by simp[cT,aCe];omega) fun i h1 h2=>?_
 have hi:i<l.length:=by simpa[cT]using h1
 have hb:=bOe.1 h i (bO7.2 hi)
 by_cases hji:i<j
 ·rw[List.getElem_append_left (by simp;omega)]
  simp only[hji,if_true,bN8,bPg]at hb;simp[cT,hb.1,hb.2,bOd,hi]
 ·rw[List.getElem_append_right (by simp;omega)]
  have e1:(l.take j).length=j:=by simp;omega
  simp only[e1,aCe,List.getElem_map,List.getElem_range,Nat.add_sub_cancel' (by omega:j<=i)]
  simp[bOd,h1]
theorem aVp (h:aDl an j l=true)(hj:j<=l.length):
  ∀o∈aCe an j l,o=aHr \/ ∃x∈l,∃v,o={dst:=x.dst,op:= .mv (.c v),guard:=none}/\ ∀d,x.dst=some d->d∉(l.getD j default).uses:=by
 intro o ho;simp only[aCe,bO5,bO7]at ho;obtain⟨i,hi,rfl⟩:=ho;have hb:=bOe.1 h (j+i) (bO7.2 (by omega))
 have hnj: ¬j+i<j:=by omega
 simp only[hnj,if_false]at hb;have e:(cT an j l).getD (j+i) default=if behind an j (j+i)=true then aHr else if yD an j l (j+i)=true then aFs (l.getD (j+i) default)else l.getD (j+i) default:=by
  simp[cT,bOd,show j+i<l.length by omega]
 rw[e];have hmem:l.getD (j+i) default∈l:=by
  rw[bOd,bPh (by omega)]
  exact bOg _
 by_cases hbe:behind an j (j+i)=true
 ·rw[if_pos hbe];exact .inl rfl
 ·rw[if_neg hbe];simp only[bPf]at hbe;rw[hbe,bO6,bN8,bPe]at hb;have huse: ∀d,(l.getD (j+i) default).dst=some d->d∉(l.getD j default).uses:=fun d hd=>by
   have:=hb.2;rw[hd]at this
   simpa using this
  by_cases hlo:yD an j l (j+i)=true
  ·rw[if_pos hlo];exact .inr ⟨_,hmem,.dead,rfl,huse⟩
  ·rw[if_neg hlo];have hm:=hb.1.resolve_left hlo;simp only[mvC,bN8,bQ7]at hm;generalize l.getD (j+i) default=o at hm huse hmem⊢;obtain⟨od,oo,og⟩:=o;obtain⟨hg,ho⟩:=hm
   simp only at hg ho
   subst hg
   split at ho
   ·rename_i v;exact .inr ⟨_,hmem,v,rfl,huse⟩
   ·cases ho
def rJ :Res:={v:= .dead}
theorem aIx {L:bG}: ∀(l m:List aM) {st:St} {Q:St->List Res->Prop},(qQ L l st fun s rs=>qQ L m s fun s' rs'=>Q s' (rs++rs'))->qQ L (l++m) st Q
 |[],m,st,Q,h=>h
 |o::l,m,st,Q,h=>kY h fun s r hs=>aIx l m hs
theorem aPx {L:bG}{U:Nat->Prop}{D:Nat->Prop}: ∀(m:List aM),(∀o∈m,o=aHr \/ ∃d v,o={dst:=d,op:= .mv (.c v),guard:=none}/\ ∀t,d=some t-> ¬U t/\ D t)-> ∀{st:St} {Q:St->List Res->Prop},
  (∀s rs,s.en=st.en->s.cnt=st.cnt->(∀t,U t->s.fr t=st.fr t)->(∀t,¬D t->s.fr t=st.fr t)->lF (List.replicate m.length rJ) rs->Q s rs)->qQ L m st Q
 |[],_,st,Q,h=>h st [] rfl rfl (fun _ _=>rfl) (fun _ _=>rfl) trivial
 |o::m,hm,st,Q,h=>by
  have ih: ∀(st1:St) (r:Res),st1.en=st.en->st1.cnt=st.cnt->(∀t,U t->st1.fr t=st.fr t)->(∀t,¬D t->st1.fr t=st.fr t)->rJ={r with v:= .dead}->qQ L m st1 fun s rs=>Q s (r::rs):=fun st1 r a1 a2 a3 a4 a5=>
   aPx m (fun o ho=>hm o (bP8 _ ho)) fun s rs b1 b2 b3 b4 b5=>h s (r::rs) (b1.trans a1) (b2.trans a2) (fun t ht=>(b3 t ht).trans (a3 t ht)) (fun t ht=>(b4 t ht).trans (a4 t ht)) ⟨a5,b5⟩
  rcases hm o (by simp)with rfl|⟨d,v,rfl,hd⟩
  ·exact⟨rfl,ih st _ rfl rfl (fun _ _=>rfl) (fun _ _=>rfl) rfl⟩
  ·refine⟨rfl,ih _ _ rfl rfl (fun t ht=>?_) (fun t ht=>?_) rfl⟩
   ·exact oH fun x hx e=>(hd x hx).1 (e▸ht)
   ·exact oH fun x hx e=>ht (e▸(hd x hx).2)
theorem aPy : ∀{fs rs fs' rs':List Res},lF fs rs->lF fs' rs'->lF (fs++fs') (rs++rs')
 |[],[],_,_,_,h=>h
 |a::l,b::m,_,_,h,k=>⟨h.1,aPy h.2 k⟩
 |[],_::_,_,_,h,_=>h.elim
 |_::_,[],_,_,h,_=>h.elim
theorem aSs {L:bG}{o:aM}{s:St}{K:Val->St->Prop}(h:kJ L o st K)(he:s.en=st.en)(hc:s.cnt=st.cnt)(hf: ∀t∈o.uses,s.fr t=st.fr t):
  kJ L o s fun v s2=>K v ⟨st.fr,s2.en,s2.cnt⟩/\ s2.fr=s.fr:=by
 have hw:wanted s.fr o.guard=wanted st.fr o.guard:=by
  cases hg:o.guard with
  |none=>rfl
  |some p=>
   obtain⟨t,b⟩:=p;simp only[wanted];rw[hf t (by simp[aM.uses,hg])]
 have hgt: ∀x∈o.op.opds,St.get s.fr x=St.get st.fr x:=by
  intro x hx;cases x with
  |t i=>exact hf i (by simp only[aM.uses,bO2,bPq];exact .inl ⟨_,hx,by simp[Opd.tmp]⟩)
  |c v=>rfl
  |f i=>rfl
  |m tbl i=>simp only[St.get];rw[hf i (by simp only[aM.uses,bO2,bPq];exact .inl ⟨_,hx,by simp[Opd.tmp]⟩)]
 obtain⟨fr,en,cnt⟩:=st;obtain⟨fr2,en2,cnt2⟩:=s
 simp only at he hc
 subst he hc;unfold kJ at h⊢;rw[hw]
 split at h
 case h_2=>cases h
 split at h
 ·rename_i x hop;simp only[hop]at hgt⊢;rw[hgt x (by simp[LOp.opds])]
  split at h
  case h_2=>cases h
  rename_i t u hu;rw[hu];exact⟨h.1,h.2,by first|rfl|trivial⟩
 ·rename_i f args hop;simp only[hop]at hgt⊢;rw[hgt f (by simp[LOp.opds]),show args.map (St.get fr2)=args.map (St.get fr)from bQe fun p hp=>hgt p (by simp[LOp.opds,hp])]
  split at h
  case h_2=>cases h
  rename_i f' a b hf1 hf2
  split at h
  case h_2=>cases h
  rename_i rs hrs;obtain⟨v,h1,h2⟩:=h;rw[hf1,hf2];simp only[hrs];exact⟨v,h1,h2,by first|rfl|trivial⟩
 ·rename_i f args hop;simp only[hop]at hgt⊢;rw[hgt f (by simp[LOp.opds]),show args.map (St.get fr2)=args.map (St.get fr)from bQe fun p hp=>hgt p (by simp[LOp.opds,hp])]
  split at h
  case h_2=>cases h
  rename_i f' a b hf1;rw[hf1];exact h.mono fun v en' cnt' hk=>⟨hk,by first|rfl|trivial⟩
 ·cases h
theorem aIy (h:lF fs rs)(hp:jI an j l fs=true):jI an j l rs=true:=by
 unfold jI at hp⊢
 refine bOe.2 fun i hi=>?_
 have:=bOe.1 hp i hi;simp only[bPe]at this⊢
 refine this.imp id fun h2=>?_
 rcases zO h i with⟨a1,_⟩|⟨b,a1,a2⟩
 ·rw[a1]at h2;cases h2
 ·rw[a1]at h2;rw[a2];exact h2
theorem aT8 {L:bG}{C:List Res->Prop}{R:Val->St->Prop}(j:Nat){o:aM}(hj:l[j]?=some o)(ht:aDl an j l=true)(hC: ∀fs rs,lF fs rs->C fs->C rs)
  (h:jY L (l.take j) st fun st1 fs=>C (fs++List.replicate (l.length-j) rJ)/\ kJ L o st1 fun v st2=>R v ⟨fun t=>if lW l t then .tup []else st2.fr t,st2.en,st2.cnt⟩):
  (iM L (l.take j) st fun s=>kJ L o s fun _ _=>True)/\ qQ L (cT an j l) st fun st1 rs=>C rs/\ kJ L o st1 fun v st2=>R v ⟨fun t=>if lW l t then .tup []else st2.fr t,st2.en,st2.cnt⟩:=by
 have hjl:j<l.length:=(bRp.1 hj).1;have hr:=zN _ h
 refine⟨aT7 _ hr fun s rs ⟨_,_,_,h3⟩=>tE h3 fun _ _ _=>trivial,?_⟩
 rw[aYo ht (by omega)]
 have hoj:l.getD j default=o:=by simp[bOd,hj]
 have htl:(aCe an j l).length=l.length-j:=by simp[aCe]
 refine aIx _ _ (wF _ hr fun s rs ⟨fs,h1,h2,h3⟩=>aPx (U:=fun t=>t∈o.uses) (D:=fun t=>lW l t=true) _ (fun x hx=>?_) fun s' rs' a1 a2 a3 a4 a5=>⟨?_,?_⟩)
 ·refine(aVp ht (by omega) x hx).imp id ?_
  rintro⟨y,hy,v,rfl,hd⟩
  refine⟨y.dst,v,rfl,fun t e=>⟨by rw[<-hoj];exact hd t e,?_⟩⟩
  simp only[lW,bQ8,beq_iff_eq];exact⟨y,hy,e⟩
 ·rw[htl]at a5;exact hC _ _ (aPy h1 a5) h2
 ·refine tE (aSs h3 a1 a2 a3) ?_
  rintro v s2 ⟨hk,e⟩
  have:(fun t=>if lW l t then Val.tup []else s.fr t)=fun t=>if lW l t then Val.tup []else s2.fr t:=by
   funext t
   by_cases hd:lW l t=true
   ·rw[if_pos hd,if_pos hd]
   ·rw[if_neg hd,if_neg hd,e,a4 t hd]
  rw[this]at hk;exact hk
theorem lY {L:bG}{R:Ex->St->Prop}(j:Nat){o:aM}(hj:l[j]?=some o)(ht:aDl an j l=true)
  (h:jY L (l.take j) st fun st1 fs=>(dG (fs++List.replicate (l.length-j) rJ) pairs&&jI an j l (fs++List.replicate (l.length-j) rJ))=true/\
   kJ L o st1 fun v st2=>R (.panic v) ⟨fun t=>if lW l t then .tup []else st2.fr t,st2.en,st2.cnt⟩):Wp L (.drawP l an pairs) st R:=by
 obtain⟨h1,h2⟩:=aT8 (R:=fun v st=>R (.panic v) st) (C:=fun fs=>(dG fs pairs&&jI an j l fs)=true) j hj ht (fun fs rs hs hc=>by
  rw[bN8]at hc⊢;exact⟨tI hs _ hc.1,aIy hs hc.2⟩) h
 exact .inr ⟨j,o,hj,h1,h2⟩
variable {A:Nat}
theorem aLq (h:lF fs rs)(hp:nS an A k fs=true):nS an A k rs=true:=by
 have hlen:fs.length=rs.length:=by
  clear hp
  induction fs generalizing rs with
  |nil=>cases rs with
   |nil=>rfl
   |cons=>exact h.elim
  |cons f fs ih=>cases rs with
   |nil=>exact h.elim
   |cons r rs=>simp only[bOh];rw[ih h.2]
 unfold nS at hp⊢
 refine bOe.2 fun i hi=>?_
 have:=bOe.1 hp i (by rwa [hlen])
 simp only[bPe]at this⊢
 refine this.imp id fun h2=>?_
 rcases zO h i with⟨a1,_⟩|⟨b,a1,a2⟩
 ·rw[a1]at h2;cases h2
 ·rw[a1]at h2;rw[a2];exact h2
variable {z:List Val}
theorem nJ {L:bG}{R:Ex->St->Prop}(hA:l[A]?=some {dst:=some d,op:= .alloc z,guard:=none})
  (h:jY L (l.set A {dst:=some d,op:= .mv (.c (.ptr ⟨0,d,cnt 0 d⟩ 0)),guard:=none}) ⟨fr,en.set ⟨0,d,cnt 0 d⟩ (some (.box z false)),aC cnt 0 d (cnt 0 d+1)⟩ fun st' rs=>dG rs pairs=true/\ nS an A ⟨0,d,cnt 0 d⟩ rs=true/\ R .normal st'):
  Wp L (.drawL l an pairs A) ⟨fr,en,cnt⟩ R:=by
 have hg:l.getD A default={dst:=some d,op:= .alloc z,guard:=none}:=by rw[bOd,hA];rfl
 have hL:iO A ⟨0,d,cnt 0 d⟩ l=l.set A {dst:=some d,op:= .mv (.c (.ptr ⟨0,d,cnt 0 d⟩ 0)),guard:=none}:=by unfold iO yE;rw[hg]
 have hK:gW ⟨fr,en,cnt⟩ {dst:=some d,op:= .alloc z,guard:=none}=⟨0,d,cnt 0 d⟩:=rfl
 refine .inl ?_
 rw[hg,hK,hL];exact wF _ (zN _ h) fun s rs ⟨fs,h1,h2,h3,h4⟩=>⟨by rw[bN8];exact⟨tI h1 _ h2,aLq h1 h3⟩,h4⟩
theorem aPz {L:bG}{R:Ex->St->Prop}(hA:l[A]?=some {dst:=some d,op:= .alloc z,guard:=none})(j:Nat){o:aM}
  (hj:(l.set A {dst:=some d,op:= .mv (.c (.ptr ⟨0,d,cnt 0 d⟩ 0)),guard:=none})[j]?=some o) (ht:aDl an j (l.set A {dst:=some d,op:= .mv (.c (.ptr ⟨0,d,cnt 0 d⟩ 0)),guard:=none})=true)
  (h:jY L ((l.set A {dst:=some d,op:= .mv (.c (.ptr ⟨0,d,cnt 0 d⟩ 0)),guard:=none}).take j) ⟨fr,en.set ⟨0,d,cnt 0 d⟩ (some (.box z false)),aC cnt 0 d (cnt 0 d+1)⟩ fun st1 fs=>
   ((dG (fs++List.replicate ((l.set A {dst:=some d,op:= .mv (.c (.ptr ⟨0,d,cnt 0 d⟩ 0)),guard:=none}).length-j) rJ) pairs&&
    jI an j (l.set A {dst:=some d,op:= .mv (.c (.ptr ⟨0,d,cnt 0 d⟩ 0)),guard:=none}) (fs++List.replicate ((l.set A {dst:=some d,op:= .mv (.c (.ptr ⟨0,d,cnt 0 d⟩ 0)),guard:=none}).length-j) rJ))&&
    nS an A ⟨0,d,cnt 0 d⟩ (fs++List.replicate ((l.set A {dst:=some d,op:= .mv (.c (.ptr ⟨0,d,cnt 0 d⟩ 0)),guard:=none}).length-j) rJ))=true/\
   kJ L o st1 fun v st2=>R (.panic v) ⟨fun t=>if lW (l.set A {dst:=some d,op:= .mv (.c (.ptr ⟨0,d,cnt 0 d⟩ 0)),guard:=none}) t then .tup []else st2.fr t,st2.en,st2.cnt⟩):
  Wp L (.drawL l an pairs A) ⟨fr,en,cnt⟩ R:=by
 have hg:l.getD A default={dst:=some d,op:= .alloc z,guard:=none}:=by rw[bOd,hA];rfl
 have hL:iO A ⟨0,d,cnt 0 d⟩ l=l.set A {dst:=some d,op:= .mv (.c (.ptr ⟨0,d,cnt 0 d⟩ 0)),guard:=none}:=by unfold iO yE;rw[hg]
 have hK:gW ⟨fr,en,cnt⟩ {dst:=some d,op:= .alloc z,guard:=none}=⟨0,d,cnt 0 d⟩:=rfl;obtain⟨h1,h2⟩:=aT8 (R:=fun v st=>R (.panic v) st) (C:=fun fs=>((dG fs pairs&&jI an j (l.set A {dst:=some d,op:= .mv (.c (.ptr ⟨0,d,cnt 0 d⟩ 0)),guard:=none}) fs)&&nS an A ⟨0,d,cnt 0 d⟩ fs)=true) j hj ht (fun fs rs hs hc=>by
  rw[bN8,bN8]at hc⊢;exact⟨⟨tI hs _ hc.1.1,aIy hs hc.1.2⟩,aLq hs hc.2⟩) h
 refine .inr ⟨j,o,?_⟩
 rw[hg,hK,hL];exact⟨hj,h1,h2⟩
variable {K:Val->Prop}{a':List Val}{f:Nat}{r:Val}
section
variable {L :bG}{K:Val->St->Prop}
def WPx (L:bG)(f:Nat)(args:List Val)(K:Val->Prop):Prop:= ∃v,PX L f args v/\ K v
@[congr] theorem bF8 {K:Val->Prop}(h:a=a'):WPx L f a K=WPx L f a' K:=by rw[h]
theorem _root_.Go.Abs.PX.det {L:bG}{args:List Val}{s:Val}(h:PX L f args r)(k:PX L f args s):s=r:=by
 obtain⟨n,h⟩:=h;obtain⟨m,k⟩:=k;have h1:=h (max n m) (by omega);have h2:=k (max n m) (by omega)
 rw[h1]at h2;cases h2;rfl
theorem _root_.Go.Abs.PX.ret {L:bG}{args:List Val}(h:PX L f args r){K:Val->Prop}:WPx L f args K=K r:=
 propext ⟨fun⟨s,h1,h2⟩=>h.det h1▸h2,fun h2=>⟨r,h,h2⟩⟩
def aYp (L:bG)(f:Nat)(o:Option (List (Val×List Key)))(K:Val->Prop):Prop:=
 match o with
 |some rs=>WPx L f (rs.map (·.1.wk1)) K
 |none=>False
@[congr] theorem bEu {o o':Option (List (Val×List Key))}{K:Val->Prop}(h:o=o'):aYp L f o K=aYp L f o' K:=by rw[h]
@[go_sem] theorem bN3 {rs:List (Val×List Key)}{K:Val->Prop}:aYp L f (some rs) K=WPx L f (rs.map (·.1.wk1)) K:=(rfl)
@[congr] theorem bC2 {o:aM}:kJ L o st K=kJ L o st K:=(rfl)
@[go_sem] theorem bH1 :kJ L ⟨dst,.call (.f f) args,none⟩ ⟨fr,en,cnt⟩ K=aYp L f (cM (snapD 8 en) (args.map (St.get fr))) fun v=>K v ⟨fr,en,cnt⟩:=by
 simp only[kJ,wanted,Opd.noM,St.get,bPb,bPa,aYp,WPx];cases cM (snapD 8 en) (List.map (St.get fr) args)<;>rfl
@[congr] theorem bEv {K:Val->En->(Nat->Nat->Nat)->Prop}(h:a=a'):vC L f a en cnt K=vC L f a' en cnt K:=by rw[h]
def aP0 (L:bG)(f:Val)(args:List Val)(en:En)(cnt:Nat->Nat->Nat)(K:Val->En->(Nat->Nat->Nat)->Prop):Prop:=
 match f with
 | .fn f a b=>vC L f (a++args++b) en cnt K
 |_=>False
@[congr] theorem bC3 {f f':Val}{K:Val->En->(Nat->Nat->Nat)->Prop}(h:f=f')(h':a=a'):aP0 L f a en cnt K=aP0 L f' a' en cnt K:=by rw[h,h']
@[go_sem] theorem bF9 {f:Opd}:kJ L ⟨dst,.icall f args,none⟩ ⟨fr,en,cnt⟩ K=aP0 L (St.get fr f) (args.map (St.get fr)) en cnt fun v en' cnt'=>K v ⟨fr,en',cnt'⟩:=by
 simp only[kJ,wanted,aP0];cases St.get fr f<;>rfl
@[go_sem] theorem bNz {args:List Val}{K:Val->En->(Nat->Nat->Nat)->Prop}:aP0 L (.fn f a b) args en cnt K=vC L f (a++args++b) en cnt K:=(rfl)
def aP1 (v:Val)(K:Val->Prop):Prop:=match v with
 | .ifc t u=>(Val.ifc t u).flat=true/\ K (.ifc t u)
 |_=>False
@[congr] theorem bC4 {v':Val}{K:Val->Prop}(h:v=v'):aP1 v K=aP1 v' K:=by rw[h]
@[go_sem] theorem bGa :kJ L ⟨dst,.panic x,none⟩ ⟨fr,en,cnt⟩ K=aP1 (St.get fr x) fun v=>K v ⟨fr,en,cnt⟩:=by
 simp only[kJ,wanted,aP1];cases St.get fr x<;>rfl
@[go_sem] theorem bN0 {u:Val}{K:Val->Prop}:aP1 (.ifc t u) K=((Val.ifc t u).flat=true/\ K (.ifc t u)):=(rfl)
end
def aDm (P:Program)(g:Nat):List Nat:=(P.funcs[g]?).elim [] P.leadsTo
theorem aNc {P:Program}{G:Nat->Prop}(hc: ∀g,G g-> ∀h∈aDm P g,G h): ∀(n:Nat) (todo seen:List Nat),(∀g∈todo,G g)->(∀g∈seen,G g)-> ∀g∈P.closureVia n todo seen,G g
 |0,_,seen,_,hs=>fun g hg=>hs g (by simpa[Program.closureVia]using hg)
 |n+1,[],seen,_,hs=>fun g hg=>hs g (by simpa[Program.closureVia]using hg)
 |n+1,f::todo,seen,ht,hs=>by
  rw[Program.closureVia];split
  ·exact aNc hc n todo seen (fun g hg=>ht g (bP8 _ hg)) hs
  ·refine aNc hc n _ _ (fun g hg=>?_) (fun g hg=>?_)
   ·rcases bO2.1 hg with h|h
    ·exact hc f (ht f bRi) g h
    ·exact ht g (bP8 _ h)
   ·rcases bO8.1 hg with rfl|h
    ·exact ht g bRi
    ·exact hs g h
def iT (P:Program)(seen:List Nat):List Nat->Nat
 |[]=>0
 |g::l=>(if seen.contains g then 0 else(aDm P g).length)+iT P seen l
theorem aNd {P:Program}{seen:List Nat}(f:Nat): ∀l,iT P (f::seen) l<=iT P seen l
 |[]=>bN9 _
 |g::l=>by
  have:=aNd (P:=P) (seen:=seen) f l;simp only[iT,List.contains_cons]
  by_cases h:(g==f)=true<;>by_cases h2:seen.contains g=true<;>simp[h,h2]<;>omega
theorem aLr {P:Program}{seen:List Nat}{f:Nat}(hf:seen.contains f=false): ∀l,f∈l->iT P (f::seen) l+(aDm P f).length<=iT P seen l
 |[],h=>by cases h
 |g::l,h=>by
  have h1:=aNd (P:=P) (seen:=seen) f l;simp only[iT,List.contains_cons]
  by_cases e:g=f
  ·subst e;simp only[beq_self_eq_true,Bool.true_or,if_true,hf,bOa,if_false];omega
  ·have hm:f∈l:=by
    rcases bO8.1 h with h|h
    ·exact absurd h.symm e
    ·exact h
   have h2:=aLr (P:=P) hf l hm;have:(g==f)=false:=by simpa using e
   simp only[this,bO6];omega
theorem aNe {P:Program}: ∀(n:Nat) (todo seen:List Nat),todo.length+iT P seen (List.range P.funcs.size)<=n->(∀g∈seen,∀h∈aDm P g,h∈seen \/h∈todo)->
  (∀g,g∈seen \/g∈todo->g∈P.closureVia n todo seen)/\ ∀g∈P.closureVia n todo seen,∀h∈aDm P g,h∈P.closureVia n todo seen
 |0,todo,seen,hn,hi=>by
  have:todo=[]:=bRn.1 (by omega)
  subst this
  refine⟨fun g hg=>?_,fun g hg h hh=>?_⟩
  ·rcases hg with h|h
   ·simpa[Program.closureVia]using h
   ·cases h
  ·have hg':g∈seen:=by simpa[Program.closureVia]using hg
   rcases hi g hg' h hh with h|h
   ·simpa[Program.closureVia]using h
   ·cases h
 |n+1,[],seen,hn,hi=>by
  refine⟨fun g hg=>?_,fun g hg h hh=>?_⟩
  ·rcases hg with h|h
   ·simpa[Program.closureVia]using h
   ·cases h
  ·have hg':g∈seen:=by simpa[Program.closureVia]using hg
   rcases hi g hg' h hh with h|h
   ·simpa[Program.closureVia]using h
   ·cases h
 |n+1,f::todo,seen,hn,hi=>by
  rw[Program.closureVia]
  by_cases hf:seen.contains f=true
  ·rw[if_pos hf];have hfs:f∈seen:=by simpa using hf
   simp only[bOh]at hn;obtain⟨a,b⟩:=aNe (P:=P) n todo seen (by omega) (fun g hg h hh=>by
    rcases hi g hg h hh with h1|h1
    ·exact .inl h1
    ·rcases bO8.1 h1 with rfl|h1
     ·exact .inl hfs
     ·exact .inr h1)
   refine⟨fun g hg=>a g ?_,b⟩
   rcases hg with h|h
   ·exact .inl h
   ·rcases bO8.1 h with rfl|h
    ·exact .inl hfs
    ·exact .inr h
  ·rw[if_neg hf];have hf':seen.contains f=false:=by simpa using hf
   have hlen:(aDm P f).length+iT P (f::seen) (List.range P.funcs.size)<=iT P seen (List.range P.funcs.size):=by
    by_cases hs:f<P.funcs.size
    ·have:=aLr (P:=P) hf' _ (bO7.2 hs);omega
    ·have:aDm P f=[]:=by unfold aDm;rw[Array.getElem?_eq_none (by omega)];rfl
     rw[this];have:=aNd (P:=P) (seen:=seen) f (List.range P.funcs.size)
     simpa using this
   simp only[bOh]at hn;obtain⟨a,b⟩:=aNe (P:=P) n (aDm P f++todo) (f::seen) (by simp only[bOr];omega) (fun g hg h hh=>by
    rcases bO8.1 hg with rfl|hg
    ·exact .inr (bQ4 _ hh)
    ·rcases hi g hg h hh with h1|h1
     ·exact .inl (bP8 _ h1)
     ·rcases bO8.1 h1 with rfl|h1
      ·exact .inl bRi
      ·exact .inr (bQt _ h1))
   refine⟨fun g hg=>a g ?_,b⟩
   rcases hg with h|h
   ·exact .inl (bP8 _ h)
   ·rcases bO8.1 h with rfl|h
    ·exact .inl bRi
    ·exact .inr (bQt _ h)
theorem aP2 {P:Program}: ∀(l:List Func) (k:Nat),(∀i,i<l.length->P.funcs[k+i]?=l[i]?)->iT P [] (List.range' k l.length)<=(l.map fun g=>(P.leadsTo g).length+1).sum
 |[],_,_=>bOf _
 |g::l,k,h=>by
  have h0:=h 0 (by simp)
  have ih:=aP2 (P:=P) l (k+1) (fun i hi=>by
   have:=h (i+1) (by simp;omega)
   rw[show k+1+i=k+(i+1)by omega,this];rfl)
  simp only[bPo,bQn]at h0;have e:aDm P k=P.leadsTo g:=by unfold aDm;rw[h0];rfl
  simp only[bOh,bQ5,iT,e,bO4,List.sum_cons];have:([]:List Nat).contains k=false:=rfl;rw[this];simp only[bOa,if_false];omega
theorem aGb (P:Program)(f:Nat):f∈P.closure f/\ ∀g∈P.closure f,∀h∈aDm P g,h∈P.closure f:=by
 have hr:=aP2 (P:=P) P.funcs.toList 0 (fun i _=>by simp)
 rw[<-bRc,bQc]at hr;obtain⟨a,b⟩:=aNe (P:=P) (1+(P.funcs.toList.map fun g=>(P.leadsTo g).length+1).sum) [f] [] (by simp only[bOh,bOo];omega) (fun g hg=>by cases hg)
 exact⟨a f (.inr bRi),b⟩
variable {fn:Func}
theorem aDn {h:Nat}(hg:g∈P.closure f)(hfn:P.funcs[g]?=some fn)(hh:(P.leadsTo fn).contains h=true):h∈P.closure f:=
 (aGb P f).2 g hg h (by unfold aDm;rw[hfn];simpa using hh)
theorem bEw {q:Func->Nat->Bool}(h:(P.funcs.toList.zipIdx.all fun p=>q p.1 p.2)=true)(hfn:P.funcs[g]?=some fn):q fn g=true:=by
 rw[bOe]at h;exact h (fn,g) (by rw[List.mem_zipIdx_iff_getElem?];simpa using hfn)
def bC5 (P:Program)(good:Nat→Bool):Bool:=P.funcs.toList.zipIdx.all fun p=>(p.1.body.elim [] Code.globalsNamed).isEmpty&&(!good p.2||((P.leadsTo p.1).all good&&!(p.1.ours||p.1.body.isNone||p.1.name== "runtime.NumGoroutine")))
theorem aNf {good:Nat->Bool}(h:bC5 P good=true)(hf:good f=true):P.inPlace f=[]/\ P.varsNamed f=[]:=by
 have hz:=fun g fn hfn=>bEw (q:=fun a b=>(a.body.elim [] Code.globalsNamed).isEmpty&&(!good b||((P.leadsTo a).all good&&!(a.ours||a.body.isNone||a.name== "runtime.NumGoroutine")))) h (g:=g) (fn:=fn) hfn
 have hg: ∀g∈P.closure f,good g=true:=by
  refine aNc (P:=P) (G:=fun g=>good g=true) (fun g hg x hx=>?_) _ _ _ (fun g hg=>?_) (fun g hg=>by cases hg)
  ·unfold aDm at hx;cases hfn:P.funcs[g]? with
   |none=>rw[hfn]at hx;cases hx
   |some fn=>
    rw[hfn]at hx;have:=hz g fn hfn;simp only[hg,bOn,bO6,bN8,bOe]at this;exact this.2.1 x hx
  ·rw[bPm.1 hg];exact hf
 have hodd: ∀g∈P.closure f,∀fn,P.funcs[g]?=some fn→(fn.ours||fn.body.isNone||fn.name== "runtime.NumGoroutine")=false:=fun g h1 fn hfn=>by
  have:=hz g fn hfn;simp only[hg g h1,bOn,bO6,bN8]at this
  simpa using this.2.2
 constructor
 ·unfold Program.inPlace;rw[List.filterMap_eq_nil_iff];intro g h1;cases hfn:P.funcs[g]? with
  |none=>rfl
  |some fn=>
   simp only[bQz];rw[hodd g h1 fn hfn];rfl
 ·unfold Program.varsNamed;have e1:((P.closure f).flatMap fun g=>((P.funcs[g]?).bind (·.body)).elim [] Code.globalsNamed)=[]:=by
   rw[List.flatMap_eq_nil_iff];intro g h1;cases hfn:P.funcs[g]? with
   |none=>rfl
   |some fn=>
    have:=hz g fn hfn;simp only[bN8,bQ6]at this;simp only[bQz];exact this.1
  have e2:((P.closure f).filterMap fun g=>(P.funcs[g]?).bind fun fn=>if fn.body.isNone then entryReads.lookup fn.name else none)=[]:=by
   rw[List.filterMap_eq_nil_iff];intro g h1;cases hfn:P.funcs[g]? with
   |none=>rfl
   |some fn=>
    have:=hodd g h1 fn hfn;simp only[Bool.or_eq_false_iff]at this;simp only[bQz,this.1.2,bOa,if_false]
  rw[e1,e2];rfl
theorem bEx (hg:g∈P.closure f)(hfn:P.funcs[g]?=some fn)(h:(match fn.body with|some c=>c.unfollowed|none=>entryCalls fn)=true):P.unfollowed f=true/\ P.recurses f=true:=by
 have:P.unfollowed f=true:=by
  unfold Program.unfollowed;rw[bQ8];exact⟨g,hg,by rw[hfn];exact h⟩
 exact⟨this,by unfold Program.recurses;rw[this];rfl⟩
def orC (m c:bC):bC:=fun f a=>match m f a with
 |some r=>some r
 |none=>c f a
def unC (m c:bC):bC:=fun f a=>match m f a with
 |some _=>none
 |none=>c f a
def aIz (L:bG)(m:bC):Nat->bA->St->Option (Ex×St)
 |0=>fun _ _=>none
 |n+1=>rQ L (aIz L m n) (orC m (bK L 8 (aIz L m n))) (unC m (cG L (aIz L m n)))
theorem aP3 {L:bG}{m:bC}{N:Nat}(hm:CLe m (kQ L N)): ∀n,XLe (aIz L m n) (exec L (N+n))
 |0=>fun c s r h=>by simp[aIz]at h
 |n+1=>by
  have ih:=aP3 hm n;rw[show N+(n+1)=(N+n)+1 from rfl,aE4]
  refine aT1 ih (fun f a r h=>?_) (fun f a r h=>?_)
  ·unfold orC at h
   split at h
   ·rename_i hq;cases h;exact zE (by omega) (hm _ _ _ hq)
   ·exact wC ih _ _ _ h
  ·unfold unC at h
   split at h
   ·cases h
   ·exact aPm ih _ _ _ h
structure aU where
 f:Nat
 a:List Val
 r:Val
def aP4 :List aU->bC
 |[],_,_=>none
 |e::l,f,a=>if e.f=f then(if pT (qM 50) e.a a=true then some e.r else aP4 l f a)else aP4 l f a
def aZ (L:bG)(l:List aU):Prop:= ∃N,CLe (aP4 l) (kQ L N)
theorem aZ.nil {L:bG}:aZ L []:=⟨0,fun _ _ _ h=>by simp[aP4]at h⟩
theorem aZ.pc {L:bG}{l:List aU}(h:aZ L l)(hr:bK L 8 (aIz L (aP4 l) n) f a=some r):PC L f a r:=by
 obtain⟨N,hN⟩:=h;exact bD9 (wC (aP3 hN n) _ _ _ hr)
theorem aZ.add {L:bG}{l:List aU}(h:aZ L l)(hr:PC L f a r):aZ L (⟨f,a,r⟩::l):=by
 obtain⟨N,hN⟩:=h;obtain⟨M,hM⟩:=hr
 refine⟨N+M,fun g b q hq=>?_⟩
 simp only[aP4]at hq
 split at hq
 ·rename_i e1
  split at hq
  ·rename_i e2;cases hq;subst e1;cases aCt (aCu 50) e2;exact hM _ (by omega)
  ·exact zE (by omega) (hN _ _ _ hq)
 ·exact zE (by omega) (hN _ _ _ hq)
theorem aZ.step {L:bG}{e:aU}{l:List aU}(h:aZ L l)(hr:bK L 8 (aIz L (aP4 l) 1000) e.f e.a=some e.r):aZ L (e::l):=h.add (h.pc hr)
theorem aZ.one {L:bG}{e:aU}{l:List aU}(h:aZ L (e::l)):aZ L [e]:=by
 obtain⟨N,hN⟩:=h
 refine⟨N,fun f a r hr=>hN f a r ?_⟩
 simp only[aP4]at hr⊢
 split at hr
 ·rename_i e1
  split at hr
  ·rename_i e2;rw[if_pos e1,if_pos e2];exact hr
  ·cases hr
 ·cases hr
end Go.Abs
