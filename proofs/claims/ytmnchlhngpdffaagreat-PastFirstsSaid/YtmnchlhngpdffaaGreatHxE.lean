/- The interpreter of the translated code, and its proof: part E. -/
import Derived.Test.YtmnchlhngpdffaaGreatHxD
import Derived.ChangeArms
import Derived.ChangeBears
import Derived.JoinedOf
import Derived.KernelRfl
set_option linter.all false
open Array renaming getD_eq_getD_getElem? → bPc, getElem?_eq_some_iff → bQn, length_toList → bQ4
open Bool renaming and_eq_true → bOx, false_eq_true → bO0, false_or → bPv, not_eq_true → bP6, not_eq_true' → bQb, not_true → bPd, or_eq_true → bP3
open List renaming all_eq_true → bO4, any_eq_true → bRy, append_nil → bPx, drop_zero → bQ6, getD_cons_zero → bRt, getD_eq_getElem?_getD → bO2, getElem?_append → bRn, getElem?_cons_zero → bRf, getElem?_eq_getElem → bP7, getElem?_eq_some_iff → bSe, getElem_mem → bO6, isEmpty_iff → bRw, length_append → bPg, length_cons → bO7, length_eq_zero_iff → bSc, length_nil → bPe, map_congr_left → bQ5, map_cons → bPw, map_nil → bPf, mem_append → bPn, mem_append_left → bQ9, mem_append_right → bQ0, mem_cons → bP0, mem_cons_of_mem → bQz, mem_cons_self → bR7, mem_flatMap → bQa, mem_map → bPt, mem_range → bPu, mem_singleton → bQf, nil_append → bP1, range'_succ → bRu, range_eq_range' → bR2, take_zero → bO3
open Nat renaming add_zero → bQh, le_refl → bOy, zero_le → bO8
open Option renaming bind_eq_some_iff → bO9, bind_some → bRq, getD_some → bPp, isNone_iff_eq_none → bRx, isSome_none → bQ3
open Option.some renaming injEq → bOw
namespace Go.Abs
def lD (L:bJ):List aM->St->(St->List Res->Prop)->Prop
 |[],st,Q=>Q st []
 |o::l,st,Q=>oF L st o fun st' r=>lD L l st' fun s rs=>Q s ({r with v:= .dead}::rs)
theorem tB {L:bJ}(l:List aM): ∀{st:St} {Q R:St->List Res->Prop},qY L l st Q->(∀s rs,Q s rs->R s rs)->qY L l st R:=by
 induction l with
 |nil=>intro st Q R h k;exact k _ _ h
 |cons o l ih=>intro st Q R h k;exact kI h fun s r hs=>ih hs fun s rs hq=>k _ _ hq
def mA :List Res->List Res->Prop
 |[],[]=>True
 |a::l,b::m=>(a={b with v:= .dead})/\ mA l m
 |_,_=>False
theorem aAn {L:bJ}: ∀(l:List aM) {st:St} {Q:St->List Res->Prop},lD L l st Q->qY L l st fun st' rs=> ∃fs,mA fs rs/\ Q st' fs
 |[],st,Q,h=>⟨[],trivial,h⟩
 |o::l,st,Q,h=>by
  refine kI h fun s r h2=>?_
  refine tB l (aAn l h2) fun s rs ⟨fs,k1,k2⟩=>⟨{r with v:= .dead}::fs,(show mA ({r with v:= .dead}::fs) (r::rs)from⟨rfl,k1⟩),k2⟩
theorem aAo : ∀{fs rs:List Res},mA fs rs-> ∀(i:Nat),(fs[i]?=none/\ rs[i]?=none) \/ ∃b,fs[i]?=some {b with v:= .dead}/\ rs[i]?=some b
 |[],[],_,i=> .inl ⟨rfl,rfl⟩
 |a::l,b::m,h,0=> .inr ⟨b,by rw[<-h.1];rfl,rfl⟩
 |a::l,b::m,h,i+1=>by simpa using aAo h.2 i
 |[],_::_,h,_=>h.elim
 |_::_,[],h,_=>h.elim
variable {fs rs:List Res}
theorem uD (h:mA fs rs)(pairs:List (Nat×Nat))(hp:dS fs pairs=true):dS rs pairs=true:=by
 unfold dS at hp⊢
 refine bO4.2 fun p hm=>?_
 have:=bO4.1 hp p hm;rcases aAo h p.1 with⟨a1,_⟩|⟨b,a1,a2⟩
 ·rw[a1]at this;cases this
 rcases aAo h p.2 with⟨c1,_⟩|⟨d,c1,c2⟩
 ·rw[a1,c1]at this;cases this
 rw[a1,c1]at this;rw[a2,c2];exact this
variable {l:List aM}{pairs:List (Nat×Nat)}{st:St}
theorem aI {L:bJ}{R:Ex->St->Prop}
  (h:lD L l st fun st' rs=>dS rs pairs=true/\ R .normal st'):Wp L (.draw l pairs) st R:=by
 simp only[Wp];have hr:=aAn l h;split
 ·have: ∀(l:List aM) {st:St} {Q:St->List Res->Prop} {R:St->Prop},qY L l st Q->(∀s rs,Q s rs->R s)->iW L l st R:=by
   intro l
   induction l with
   |nil=>intro st Q R h k;exact k _ _ h
   |cons o l ih=>intro st Q R h k;exact kI h fun s r hs=>ih hs fun s rs hq=>k _ _ hq
  exact this l hr fun s rs ⟨_,_,h⟩=>h.2
 ·exact tB l hr fun s rs ⟨fs,h1,h2,h3⟩=>⟨uD h1 _ h2,h3⟩
variable {u:Key->Bool}{v:Val}{ws:List W}{op:LOp}{args:List Opd}{t d:Nat}{x:Opd}{cnt:Nat->Nat->Nat}{en:En}{fr:Nat->Val}{dst:Option Nat}
section
variable {L :bJ}{Q:St->List Res->Prop}
@[go_sem] theorem bM9 (st:St):lD L [] st Q=Q st []:=(rfl)
def aAp (L:bJ)(l:List aM)(dst:Option Nat)(fr:Nat->Val)(en:En)(cnt:Nat->Nat->Nat)(Q:St->List Res->Prop):Option Res->Prop
 |some r=>(r.bump&&dst.isNone)=false/\ lD L l ⟨hZ fr dst r.v,W.applyAll en r.ws,if r.bump then aC cnt 0 (dst.getD 0) (cnt 0 (dst.getD 0)+1)else cnt⟩ fun s rs=>Q s ({r with v:= .dead}::rs)
 |none=>False
@[congr] theorem bFd {r r':Option Res}(h:r=r'):aAp L l dst fr en cnt Q r=aAp L l dst fr en cnt Q r':=by rw[h]
@[go_sem] theorem aUr {rs:List R}:
  aAp L l dst fr en cnt Q (some ⟨v,ws,rs,false,none,u⟩)=lD L l ⟨hZ fr dst v,W.applyAll en ws,cnt⟩ fun s fs=>Q s ({v:= .dead,ws:=ws,rs:=rs,unch:=u}::fs):=by simp[aAp]
@[go_sem] theorem aJ2 {rs:List R}:
  aAp L l (some d) fr en cnt Q (some ⟨v,ws,rs,true,none,u⟩)=lD L l ⟨iR fr d v,W.applyAll en ws,aC cnt 0 d (cnt 0 d+1)⟩ fun s fs=>Q s ({v:= .dead,ws:=ws,rs:=rs,bump:=true,unch:=u}::fs):=by simp[aAp,hZ]
theorem aUs (h:op.plain=true):lD L (⟨dst,op,none⟩::l) ⟨fr,en,cnt⟩ Q=aAp L l dst fr en cnt Q (dE (dst.getD 0) (cnt 0 (dst.getD 0)) en (St.get fr) op):=by
 cases op<;>first|(simp[LOp.plain]at h;done)|rfl|(simp only[lD,oF,wanted,WOp,aAp];rfl)
@[go_sem] theorem bLi (h:op.plain=true):lD L (⟨some d,op,none⟩::l) ⟨fr,en,cnt⟩ Q=aAp L l (some d) fr en cnt Q (dE d (cnt 0 d) en (St.get fr) op):=aUs h
@[go_sem] theorem bLj (h:op.plain=true):lD L (⟨none,op,none⟩::l) ⟨fr,en,cnt⟩ Q=aAp L l none fr en cnt Q (dE 0 (cnt 0 0) en (St.get fr) op):=aUs h
@[go_sem] theorem bLk {f:Opd}:lD L (⟨dst,.call f args,none⟩::l) ⟨fr,en,cnt⟩ Q=
  aCk L en (St.get fr f) (args.map (St.get fr)) fun r ks=>aAp L l dst fr en cnt Q (some (gS 0 (dst.getD 0) (cnt 0 (dst.getD 0)) r ks)):=by
 simp only[lD,oF,wanted,WOp,aCk,aHd,aRi];cases St.get fr f<;>first|rfl|skip
@[go_sem] theorem bJi {f:Opd}:lD L (⟨dst,.icall f args,none⟩::l) ⟨fr,en,cnt⟩ Q=
  WIn L (St.get fr f) (args.map (St.get fr)) en cnt fun v en' cnt'=>lD L l ⟨hZ fr dst v,en',cnt'⟩ fun s fs=>Q s ({v:= .dead,mem:=some (en',cnt'),unch:=fun k=>aQf (en k) (en' k)}::fs):=(rfl)
theorem aXn {b:Bool}:lD L (⟨dst,op,some (t,b)⟩::l) ⟨fr,en,cnt⟩ Q=
  oQ (fr t) b (lD L (⟨dst,op,none⟩::l) ⟨fr,en,cnt⟩ Q) (lD L l ⟨hZ fr dst (.tup []),en,cnt⟩ fun s fs=>Q s ({v:= .dead}::fs)) .mk:=by
 simp only[lD,oF,wanted,oQ,qZ]
 split<;>rename_i h
 ·split at h
  ·rename_i b' hb;simp only[bOw]at h;simp only[hb,h,if_true]
  ·cases h
  ·cases h
 ·split at h
  ·rename_i b' hb;simp only[bOw]at h;simp only[hb,h,bO0,if_false,true_and]
  ·rename_i hb;simp only[hb,true_and]
  ·cases h
 ·split at h
  ·cases h
  ·cases h
  ·rename_i h1 h2;split
   ·rename_i b' hb;exact absurd hb (h1 _)
   ·rename_i hb;exact absurd hb h2
   ·rfl
theorem aXo {y:Opd}{size:Nat}{xs ys:List Val}{rs:List R}{D:List Nat}(hx:jK en (St.get fr x) size xs D)(hy:iN en (St.get fr y)=some (ys,rs))(h1:cY size ys=true)(hrs:rs=[])
  (hl:xs.length+ys.length<=16777216)
  (k: ∀v en' cnt' r,jK en' v size (xs++ys) (d::D)->(∀n t g,n≠0 \/(t≠d/\ t∉D)->en' ⟨n,t,g⟩=en ⟨n,t,g⟩)->(∀n t,t≠d->cnt' n t=cnt n t)->
   (∀w∈(r:Res).ws,w.key.n=0/\ (w.key.t=d \/w.key.t∈D)/\ ∃e,w= .ent w.key e)->(∀ρ∈r.rs,ρ.key.n=0/\ ρ.key.t∈D)->r.mem=none->lD L l ⟨iR fr d v,en',cnt'⟩ fun s fs=>Q s ({r with v:= .dead}::fs)):
  lD L (⟨some d,.append size x y,none⟩::l) ⟨fr,en,cnt⟩ Q:=by
 subst hrs;rw[aUs (by rfl)]
 simp only[bPp];rcases hx with⟨hv,rfl⟩|⟨t,g,f,hv,he,ht⟩
 ·simp only[dE,eval,fJ,hy,h1,if_true,hv]
  by_cases hys:ys.isEmpty=true
  ·have:ys=[]:=by simpa using hys
   subst this;simp only[List.isEmpty_nil,if_true,aUr,fL];exact k _ _ _ {v:= .dead} (.inl ⟨rfl,rfl⟩) (fun _ _ _ _=>rfl) (fun _ _ _=>rfl) (by simp) (by simp) rfl
  ·rw[if_neg hys,if_pos ⟨by simpa using hl,rfl⟩]
   simp only[aJ2,kH,fL,xC]
   refine k _ _ _ {v:= .dead,ws:=[.ent ⟨0,d,cnt 0 d⟩ _],rs:=[],bump:=true} (.inr ⟨d,cnt 0 d,false,by simp,by simp[En.set],by simp⟩) (fun n t g h=>pZ (fun he=>?_)) (fun n t h=>by simp[aC,h]) (by simp[W.key]) (by simp) rfl
   injection he with h3 h4 h5
   rcases h with h|⟨h,_⟩
   ·exact h h3
   ·exact h h4
 ·simp only[dE,eval,fJ,aJy,hy,h1,if_true,hv,he];rw[if_pos ⟨.inl (by simp),hl,trivial,fun h=>by cases h⟩]
  simp only[aJ2,kH,fL,xC]
  refine k _ _ _ {v:= .dead,ws:=[.ent ⟨0,t,g⟩ none,.ent ⟨0,d,cnt 0 d⟩ _],rs:=[.val ⟨0,t,g⟩,.flag ⟨0,t,g⟩],bump:=true} (.inr ⟨d,cnt 0 d,f,by simp,?_,by simp⟩) (fun n t' g' h=>?_) (fun n t h=>by simp[aC,h]) (by simp[W.key,ht]) (by simp[R.key,ht]) rfl
  ·simp[En.set]
  ·have e1:(⟨n,t',g'⟩:Key)≠⟨0,d,cnt 0 d⟩:=by
    intro he;injection he with h3 h4 h5;rcases h with h|⟨h,_⟩
    ·exact h h3
    ·exact h h4
   have e2:(⟨n,t',g'⟩:Key)≠⟨0,t,g⟩:=by
    intro he;injection he with h3 h4 h5;subst h4;rcases h with h|⟨_,h⟩
    ·exact h h3
    ·exact h ht
   rw[pZ e1,pZ e2]
end
variable {e:Option Ent}{k:Key}
theorem bAj {ρ:R}:jS (.ent k e) ρ=decide (k≠ρ.key):=by cases ρ<;>rfl
variable {k':Key}{vs:List Val}
theorem bAk {o:Nat}:jS (.cells k o vs) (.val k')=decide (k≠k'):=rfl
theorem bAl {o:Nat}:jS (.cells k o vs) (.flag k')=true:=rfl
variable {n o':Nat}
theorem bAm {o:Nat}:jS (.cells k o vs) (.cells k' o' n)=(decide (k≠k')||decide (o+vs.length<=o')||decide (o'+n<=o)):=rfl
theorem bAn {w:W}:mM (.ent k e) w=decide (k≠w.key):=by cases w<;>rfl
theorem bAo {o:Nat}:mM (.cells k o vs) (.ent k' e)=decide (k≠k'):=rfl
theorem bAp {o:Nat}{vs':List Val}:mM (.cells k o vs) (.cells k' o' vs')=(decide (k≠k')||decide (o+vs.length<=o')||decide (o'+vs'.length<=o)):=rfl
variable {g:Nat}
theorem bJj {n' t' g':Nat}(h:t≠t'):((⟨n,t,g⟩:Key)≠⟨n',t',g'⟩)=True:=by simp[h]
attribute [go_sem] dS aDy bAj bAk bAl bAm bAn bAo bAp bJj W.key R.key bQ3 aXn
def lP (P:Program)(F:TypeId->List Val->Prop):List Field->List Val->Prop
 |[],vs=>vs=[]
 |f::fs,vs=> ∃a b,vs=a++b/\ a.length=P.cellsOf f.type/\ F f.type a/\ lP P F fs b
def sD (P:Program)(t:TypeId)(vs:List Val):Val:=if cZ P t then .agg vs else vs.getD 0 .dead
def jD (P:Program):Nat->TypeId->List Val->Prop
 |0,_,_=>False
 |n+1,t,vs=>
  match P.underlying t with
  |some .bool=> ∃b,vs=[.bool b]
  |some (.int k)=> ∃i,vs=[.int k i]/\ (Lit.int k i).wf=true
  |some .string=> ∃s:ByteArray,vs=[.str s]/\ s.size<=maxLen
  |some (.slice e)=> ∃xs:List (List Val),vs=[.fz (xs.map (sD P e))]/\ xs.length<=maxLen/\ ∀x∈xs,jD P n e x
  |some (.struct fs)=>lP P (jD P n) fs.toList vs
  |_=>True
def aRo (P:Program)(S:TypeId->Bool):Bool:=(List.range P.types.size).all fun t=>!S t||match P.underlying t with
 |some (.slice e)=>P.cellsOf e !=0&&S e
 |some (.struct fs)=>fs.toList.all fun f=>S f.type
 |some (.array ..)=>false
 |_=>true
def aHe (w:World):Nat->Nat->Prop:=fun b _=>b<w.heap.size
variable {c:Value}{a b:List Val}{w:World}{P:Program}
section
variable {H :Type}{enc:TypeId×Value->H}{sp:Nat->Bool}
def mB (w:World)(vs:List Val)(cs:List Value):Prop:=
 vs.length=cs.length/\ ∀i,i<cs.length->fK (cs.getD i undef)=true/\ VR (aHe w) Gh.none w (vs.getD i .dead) (cs.getD i undef)
theorem mB.nil :mB w [] []:=⟨rfl,fun i hi=>by simp at hi⟩
theorem mB.one (h:VR (aHe w) Gh.none w v c)(ho:fK c=true):mB w [v] [c]:=by
 refine⟨rfl,fun i hi=>?_⟩
 have:i=0:=by simp at hi;omega
 subst this;exact⟨ho,h⟩
theorem mB.append {c d:List Value}(h:mB w a c)(k:mB w b d):mB w (a++b) (c++d):=by
 refine⟨by simp[h.1,k.1],fun i hi=>?_⟩
 simp only[bO2,bRn];rw[h.1];split
 ·rename_i hlt;have:=h.2 i hlt;simpa[bO2]using this
 ·have:=k.2 (i-c.length) (by simp at hi;omega);simpa[bO2]using this
theorem not_agg (h:VR (aHe w) Gh.none w v c)(ho:fK c=true):v.cells=[v]/\ v.one=true:=by
 cases h<;>first|exact⟨rfl,rfl⟩|(simp[fK]at ho)
theorem aHf (n:Nat)(F:TypeId->List Val->Prop): ∀(fs:List Field) (cs:List Value),cs.length=(fs.map fun f=>P.cellsOf f.type).sum->
  (∀(j:Nat) f,fs[j]?=some f-> ∃vs,F f.type vs/\ mB w vs ((cs.drop ((fs.take j).map fun f=>P.cellsOf f.type).sum).take (P.cellsOf f.type)))->
  ∃vs,lP P F fs vs/\ mB w vs cs
 |[],cs,hl,_=>by
  have:cs=[]:=by simpa using hl
  subst this;exact⟨[],rfl,mB.nil⟩
 |f::fs,cs,hl,h=>by
  simp only[bPw,List.sum_cons]at hl;obtain⟨a,ha,hra⟩:=h 0 f rfl;simp only[bO3,bPf,List.sum_nil,bQ6]at hra;obtain⟨b,hb,hrb⟩:=aHf n F fs (cs.drop (P.cellsOf f.type)) (by simp;omega) (fun j g hj=>by
   obtain⟨vs,h1,h2⟩:=h (j+1) g (by simpa using hj)
   refine⟨vs,h1,?_⟩
   simpa[List.drop_drop]using h2)
  refine⟨a++b,⟨a,b,rfl,?_,ha,hb⟩,?_⟩
  ·rw[hra.1];simp;omega
  ·have:=mB.append hra hrb
   rwa [List.take_append_drop]at this
theorem aRp (b o i:Nat):(⟨b,o,none⟩:Addr).add i=⟨b,o+i,none⟩:=by
 unfold Addr.add;split
 ·rename_i h;subst h;rfl
 ·rfl
theorem tC {a:Addr}{cs:List Value}(h:w.cells? 0 a n=some cs):cs.length=n/\ ∀j,j<n->w.cell? (a.add j)=some (cs.getD j undef):=by
 unfold World.cells? at h;rw[if_pos (bO8 _)]at h;have h1:=mapM_some_length h
 refine⟨by simpa using h1,fun j hj=>?_⟩
 have h2:=mapM_some_get h j j (by simp[hj])
 rw[h2];have:j<cs.length:=by rw[h1];simpa using hj
 simp[bO2,this]
theorem aXp (hl:laidOutB P=true)(S:TypeId->Bool)(hz:aRo P S=true): ∀(fuel:Nat) (t:TypeId) (cs:List Value) (x:DataW H×List MemPlace),t<P.types.size->S t=true->DataW.trod enc P w 0 sp true fuel t cs=some x->
  ∃vs,jD P fuel t vs/\ mB w vs cs:=by
 intro fuel
 induction fuel with
 |zero=>intro t cs x _ _ h;simp[DataW.trod]at h
 |succ n ih=>
  intro t cs x ht hs h;have hz0:=bO4.1 hz t (bPu.2 ht);simp only[hs,bPd,bPv]at hz0;cases hu:P.underlying t with
  |none=>simp[DataW.trod,hu]at h
  |some u=>
   have dead: ∀c:Value,cs=[c]->fK c=true-> ∃vs:List Val,True/\ mB w vs cs:=by
    rintro c rfl ho;exact⟨[.dead],trivial,mB.one (.dead c ho) ho⟩
   have gen:(∃c,cs=[c]/\ fK c=true)->(match u with| .bool| .int _| .string| .slice _| .struct _| .array .. =>False|_=>True)-> ∃vs,jD P (n+1) t vs/\ mB w vs cs:=by
    rintro⟨c,rfl,ho⟩ hk
    refine⟨[.dead],?_,mB.one (.dead c ho) ho⟩
    simp only[jD,hu];cases u<;>first|trivial|exact hk.elim
   cases u with
   |bool=>
    simp only[DataW.trod,hu]at h
    split at h<;>first|(cases h;done)|skip
    all_goals first|(rename_i h1;cases h1;done)|skip
    rename_i b h1;exact⟨[.bool b],by simp only[jD,hu];exact⟨b,rfl⟩,mB.one (.bool b) rfl⟩
   |int k=>
    simp only[DataW.trod,hu]at h
    split at h<;>first|(cases h;done)|skip
    all_goals first|(rename_i h1;cases h1;done)|skip
    rename_i k0 k' i h1;cases h1
    split at h
    ·rename_i hk;obtain⟨rfl,hw⟩:=hk;exact⟨[.int _ i],by simp only[jD,hu];exact⟨i,rfl,hw⟩,mB.one (.int _ i) rfl⟩
    ·cases h
   |string=>
    simp only[DataW.trod,hu]at h
    split at h<;>first|(cases h;done)|skip
    all_goals first|(rename_i h1;cases h1;done)|skip
    rename_i s h1
    split at h
    ·rename_i hs;exact⟨[.str s],by simp only[jD,hu];exact⟨s,rfl,hs⟩,mB.one (.str s) rfl⟩
    ·cases h
   |slice e=>
    simp only[hu,bOx]at hz0;have he:P.cellsOf e≠0:=by simpa using hz0.1
    have hSe:S e=true:=hz0.2;have hke:e<P.types.size:=kid_slice hl ht hu;rcases DataW.trod_slice hu h with⟨rfl,rfl⟩|⟨a,len,cap,elems,jE,m,hm,rfl,rfl,_,hlc,hcm,hel,hall⟩
    ·exact⟨[.fz []],by simp only[jD,hu];exact⟨[],rfl,bO8 _,by simp⟩,mB.one (.fz0 _ _) rfl⟩
    ·cases hm
     replace hall:=hall.1
     have each: ∀i,i<len-> ∃csi vsi,w.cells? 0 (a.add (i*P.cellsOf e)) (P.cellsOf e)=some csi/\ jD P n e vsi/\ mB w vsi csi:=by
      intro i hi;have h1:=hall i hi;have hlt:i<elems.length:=by omega
      rw[bP7 hlt]at h1;simp only[bO9]at h1;obtain⟨csi,h2,h3⟩:=h1;obtain⟨vsi,h4,h5⟩:=ih e csi _ hke hSe h3;exact⟨csi,vsi,h2,h4,h5⟩
     let C (i:Nat):List Value:=if hi:i<len then(each i hi).choose else []
     let V (i:Nat):List Val:=if hi:i<len then(each i hi).choose_spec.choose else []
     have hCV: ∀i,i<len->w.cells? 0 (a.add (i*P.cellsOf e)) (P.cellsOf e)=some (C i)/\ jD P n e (V i)/\ mB w (V i) (C i):=by
      intro i hi;have:=(each i hi).choose_spec.choose_spec;simp only[C,V,dif_pos hi];exact this
     have hpk: ∀i,i<len->(sD P e (V i)).cells=V i:=by
      intro i hi;obtain⟨h1,h2,h3⟩:=hCV i hi;unfold sD;split
      ·rfl
      ·rename_i hagg;have hlen:(V i).length=1:=by
        rw[h3.1,(tC h1).1];have hr:=rowFine_of hl hke;unfold cZ at hagg;have hvar:isVar P e=true:=by
         have:=rowFine_of hl ht;simp only[rowFine,hu]at this;have hv:isVar P t=true:=by simp[isVar,ht,hu,kindOk]
         simp only[hv,bPd,bPv,bOx]at this;exact this.1
        simp only[rowFine,hvar,bPd,bPv]at hr
        split at hr<;>first|(rename_i h';rw[h']at hagg;simp at hagg;done)|(simp only[bOx,beq_iff_eq]at hr;exact hr.2)|(simpa using hr)
       obtain⟨v,hv⟩:=List.length_eq_one_iff.1 hlen;have h4:=h3.2 0 (by rw[<-h3.1,hlen];omega)
       rw[hv]at h4⊢;simp only[bRt]at h4⊢;exact(not_agg h4.2 h4.1).1
     refine⟨[.fz ((List.range len).map fun i=>sD P e (V i))],?_,?_⟩
     ·simp only[jD,hu]
      refine⟨(List.range len).map V,by simp[Function.comp_def],by simp;omega,fun x hx=>?_⟩
      obtain⟨i,hi,rfl⟩:=bPt.1 hx;exact(hCV i (by simpa using hi)).2.1
     ·refine mB.one ?_ rfl
      by_cases h0:len=0
      ·subst h0;exact .fz0 _ _
      ·have hsp:a.spot=none:=by
        have:=(tC (hCV 0 (by omega)).1).2 0 (by omega)
        unfold World.cell? at this
        split at this
        ·rename_i hh
         split at this
         ·cases this
         ·rename_i hs;simpa[Addr.add]using hs
        ·cases this
       obtain⟨blk,off,spt⟩:=a
       simp only at hsp
       subst hsp;have hg: ∀i,i<len->((List.range len).map fun i=>sD P e (V i)).getD i .dead=sD P e (V i):=by
        intro i hi;simp[bO2,hi]
       have hcell: ∀i j,i<len->j<P.cellsOf e->w.cell? ⟨blk,off+i*P.cellsOf e+j,none⟩=some ((C i).getD j undef):=by
        intro i j hi hj;have:=(tC (hCV i hi).1).2 j hj;rw[aRp,aRp]at this;exact this
       have:=VR.fz (T:=aHe w) (G:=Gh.none) (w:=w) ((List.range len).map fun i=>sD P e (V i)) blk off (P.cellsOf e) cap (fun i j=>(C i).getD j undef)
        (by simpa using hlc) (fun i hi=>by
         have hi':i<len:=by simpa using hi
         rw[hg i hi',hpk i hi',(hCV i hi').2.2.1,(tC (hCV i hi').1).1])
        (fun i j hi hj=>hcell i j (by simpa using hi) hj)
        (fun i j hi hj=>by
         have:=hcell i j (by simpa using hi) hj
         unfold World.cell? at this
         split at this
         ·rename_i hh;exact(bQn.1 hh).1
         ·cases this)
        (fun i j hi hj=>by
         have hi':i<len:=by simpa using hi
         exact((hCV i hi').2.2.2 j (by rw[(tC (hCV i hi').1).1];exact hj)).1)
        (fun i j hi hj=>by
         have hi':i<len:=by simpa using hi
         rw[hg i hi',hpk i hi'];exact((hCV i hi').2.2.2 j (by rw[(tC (hCV i hi').1).1];exact hj)).2)
       simpa using this
   |struct fs=>
    obtain⟨xs,m,hm,_,hlen,hxl,hall⟩:=DataW.trod_struct hu h;cases hm;obtain⟨k1,k2,k3⟩:=kid_struct hl ht hu;obtain⟨vs,h1,h2⟩:=aHf (P:=P) (w:=w) n (jD P n) fs.toList cs (by rw[hlen,k2]) (fun j f hj=>by
     have h3:=hall j f (by simpa using hj)
     have hj':j<xs.length:=by rw[hxl];exact(by simpa using(bSe.1 hj).1)
     rw[bP7 hj']at h3;rw[k3 j f hj]at h3;exact ih _ _ _ (k1 f (List.mem_of_getElem? hj)) (by simp only[hu]at hz0;exact bO4.1 hz0 f (List.mem_of_getElem? hj)) h3)
    exact⟨vs,by simp only[jD,hu];exact h1,h2⟩
   |array k e=>
    simp[hu]at hz0
   |_=>
    refine gen ?_ trivial
    simp only[DataW.trod,hu]at h
    first
    |(cases h;done)
    |(split at h<;>first|(cases h;done)|exact⟨_,rfl,rfl⟩|(rename_i h1;cases h1;done)|(rename_i h1 _;cases h1;done))
end
section
variable {t:TypeId}
theorem fR {k:IntKind}(hu:P.underlying t=some (.int k))(h:jD P (n+1) t vs): ∃i,vs=[.int k i]:=by
 simp only[jD,hu]at h;obtain⟨i,h,_⟩:=h;exact⟨i,h⟩
theorem aRq (hu:P.underlying t=some .string)(h:jD P (n+1) t vs): ∃s:ByteArray,vs=[.str s]/\ Few s.size:=by
 simp only[jD,hu]at h;obtain⟨s,h,k⟩:=h;exact⟨s,h,by unfold Few;unfold maxLen at k;omega⟩
theorem aV8 {α:Type}(enc:α->Val)(Q:α->Prop)(f:List Val->Val): ∀(xs:List (List Val)),(∀x∈xs,∃a,f x=enc a/\ Q a)-> ∃l:List α,xs.map f=l.map enc/\ l.length=xs.length/\ ∀a∈l,Q a
 |[],_=>⟨[],rfl,rfl,by simp⟩
 |x::xs,h=>by
  obtain⟨a,ha,hq⟩:=h x (by simp)
  obtain⟨l,h1,h2,h3⟩:=aV8 enc Q f xs fun y hy=>h y (by simp[hy])
  exact⟨a::l,by simp[ha,h1],by simp[h2],fun b hb=>by rcases bP0.1 hb with rfl|hb;exact hq;exact h3 b hb⟩
theorem kJ {α:Type}(enc:α->Val)(Q:α->Prop){e:TypeId}(hu:P.underlying t=some (.slice e))(hel: ∀x,jD P n e x-> ∃a,sD P e x=enc a/\ Q a)(h:jD P (n+1) t vs):
  ∃l:List α,vs=[.fz (l.map enc)]/\ Few l.length/\ ∀a∈l,Q a:=by
 simp only[jD,hu]at h;obtain⟨xs,h,hl,hx⟩:=h;obtain⟨l,h1,h2,h3⟩:=aV8 enc Q (sD P e) xs fun x hm=>hel x (hx x hm)
 exact⟨l,by rw[h,h1],by rw[h2];unfold Few;unfold maxLen at hl;omega,h3⟩
theorem fS {fs:Array Field}(hu:P.underlying t=some (.struct fs))(h:jD P (n+1) t vs):lP P (jD P n) fs.toList vs:=by
 simp only[jD,hu]at h;exact h
theorem aHg {F F':TypeId->List Val->Prop}(h: ∀t vs,F t vs->F' t vs): ∀(fs:List Field) (vs:List Val),lP P F fs vs->lP P F' fs vs
 |[],vs,k=>k
 |f::fs,vs,⟨a,b,h1,h2,h3,h4⟩=>⟨a,b,h1,h2,h _ _ h3,aHg h fs b h4⟩
theorem aGg : ∀(n:Nat) (t:TypeId) (vs:List Val),jD P n t vs->jD P (n+1) t vs
 |0,t,vs,h=>by simp[jD]at h
 |n+1,t,vs,h=>by
  rw[jD]at h⊢;split
  ·rename_i hu;rw[hu]at h;exact h
  ·rename_i hu;rw[hu]at h;exact h
  ·rename_i hu;rw[hu]at h;exact h
  ·rename_i hu;rw[hu]at h;obtain⟨xs,h1,h2,h3⟩:=h;exact⟨xs,h1,h2,fun x hx=>aGg n _ _ (h3 x hx)⟩
  ·rename_i hu;rw[hu]at h;exact aHg (aGg n) _ _ h
  ·trivial
theorem aXq (k:Nat)(h:jD P n t vs):jD P (n+k) t vs:=by
 induction k with
 |zero=>exact h
 |succ k ih=>exact aGg _ _ _ ih
theorem aO1 {x:Array Value}(h:mB w vs x.toList):VR (aHe w) Gh.none w (.agg vs) (.agg x):=by
 have e: ∀i,x.getD i undef=x.toList.getD i undef:=by
  intro i;simp[bPc,bO2]
 have hl:vs.length=x.size:=by simpa using h.1
 refine .agg vs x hl.symm (fun i hi=>?_) fun i hi=>?_
 ·rw[e];exact(h.2 i (by rw[bQ4];omega)).1
 ·rw[e];exact(h.2 i (by rw[bQ4];omega)).2
end
theorem bL {L:bJ}{R:Ex->St->Prop}(h:iW L l st (R .normal)):Wp L (.opsP l) st R:= .inl h
theorem cK {L:bJ}{R:Ex->St->Prop}(k:Nat){o:aM}(hk:l[k]?=some o)(h:iW L (l.take k) st fun st1=>lZ L o st1 fun v st2=>R (.panic v) st2):Wp L (.opsP l) st R:= .inr ⟨k,o,hk,h⟩
variable {an:List (List Nat)}
theorem iU {L:bJ}{R:Ex->St->Prop}
  (h:lD L l st fun st' rs=>dS rs pairs=true/\ R .normal st'):Wp L (.drawP l an pairs) st R:=
 .inl (tB l (aAn l h) fun s rs ⟨fs,h1,h2,h3⟩=>⟨uD h1 _ h2,h3⟩)
theorem aV9 {L:bJ}: ∀(l:List aM) {st:St} {Q:St->List Res->Prop} {R:St->Prop},qY L l st Q->(∀s rs,Q s rs->R s)->iW L l st R
 |[],st,Q,R,h,k=>k _ _ h
 |o::l,st,Q,R,h,k=>kI h fun s r hs=>aV9 l hs fun s rs hq=>k _ _ hq
theorem bAq {L:bJ}{R:Ex->St->Prop}(h:iW L l st (R .normal)):Wp L (.drawP l an []) st R:=by
 refine .inl ?_
 have: ∀(l:List aM) {st:St} {Q:St->Prop},iW L l st Q->qY L l st fun s _=>Q s:=by
  intro l
  induction l with
  |nil=>intro st Q h;exact h
  |cons o l ih=>intro st Q h;exact kI h fun s r hs=>ih hs
 exact tB l (this l h) fun s rs hq=>⟨rfl,hq⟩
def mvC (o:aM):Bool:=o.guard.isNone&&(match o.op with| .mv (.c _)=>true|_=>false)
def aEm (an:List (List Nat))(j:Nat)(l:List aM):Bool:=
 (List.range l.length).all fun i=>if i<j then !behind an j i&&!zF an j l i else behind an j i||((zF an j l i||mvC (l.getD i default))&&(l.getD i default).dst.all fun d=>!(l.getD j default).uses.contains d)
def aDb (an:List (List Nat))(j:Nat)(l:List aM):List aM:=(List.range (l.length-j)).map fun i=>(dD an j l).getD (j+i) default
variable {j:Nat}
theorem bAr (h:aEm an j l=true)(hj:j<=l.length):dD an j l=l.take j++aDb an j l:=by
 refine List.ext_getElem (by simp[dD,aDb];omega) fun i h1 h2=>?_
 have hi:i<l.length:=by simpa[dD]using h1
 have hb:=bO4.1 h i (bPu.2 hi)
 by_cases hji:i<j
 ·rw[List.getElem_append_left (by simp;omega)]
  simp only[hji,if_true,bOx,bQb]at hb;simp[dD,hb.1,hb.2,bO2,hi]
 ·rw[List.getElem_append_right (by simp;omega)]
  have e1:(l.take j).length=j:=by simp;omega
  simp only[e1,aDb,List.getElem_map,List.getElem_range,Nat.add_sub_cancel' (by omega:j<=i)]
  simp[bO2,h1]
theorem aXr (h:aEm an j l=true)(hj:j<=l.length):
  ∀o∈aDb an j l,o=aIx \/ ∃x∈l,∃v,o={dst:=x.dst,op:= .mv (.c v),guard:=none}/\ ∀d,x.dst=some d->d∉(l.getD j default).uses:=by
 intro o ho;simp only[aDb,bPt,bPu]at ho;obtain⟨i,hi,rfl⟩:=ho;have hb:=bO4.1 h (j+i) (bPu.2 (by omega))
 have hnj: ¬j+i<j:=by omega
 simp only[hnj,if_false]at hb;have e:(dD an j l).getD (j+i) default=if behind an j (j+i)=true then aIx else if zF an j l (j+i)=true then aGz (l.getD (j+i) default)else l.getD (j+i) default:=by
  simp[dD,bO2,show j+i<l.length by omega]
 rw[e];have hmem:l.getD (j+i) default∈l:=by
  rw[bO2,bP7 (by omega)]
  exact bO6 _
 by_cases hbe:behind an j (j+i)=true
 ·rw[if_pos hbe];exact .inl rfl
 ·rw[if_neg hbe];simp only[bP6]at hbe;rw[hbe,bPv,bOx,bP3]at hb;have huse: ∀d,(l.getD (j+i) default).dst=some d->d∉(l.getD j default).uses:=fun d hd=>by
   have:=hb.2;rw[hd]at this
   simpa using this
  by_cases hlo:zF an j l (j+i)=true
  ·rw[if_pos hlo];exact .inr ⟨_,hmem,.dead,rfl,huse⟩
  ·rw[if_neg hlo];have hm:=hb.1.resolve_left hlo;simp only[mvC,bOx,bRx]at hm;generalize l.getD (j+i) default=o at hm huse hmem⊢;obtain⟨od,oo,og⟩:=o;obtain⟨hg,ho⟩:=hm
   simp only at hg ho
   subst hg
   split at ho
   ·rename_i v;exact .inr ⟨_,hmem,v,rfl,huse⟩
   ·cases ho
def qP :Res:={v:= .dead}
theorem aJ3 {L:bJ}: ∀(l m:List aM) {st:St} {Q:St->List Res->Prop},(qY L l st fun s rs=>qY L m s fun s' rs'=>Q s' (rs++rs'))->qY L (l++m) st Q
 |[],m,st,Q,h=>h
 |o::l,m,st,Q,h=>kI h fun s r hs=>aJ3 l m hs
theorem aRr {L:bJ}{U:Nat->Prop}{D:Nat->Prop}: ∀(m:List aM),(∀o∈m,o=aIx \/ ∃d v,o={dst:=d,op:= .mv (.c v),guard:=none}/\ ∀t,d=some t-> ¬U t/\ D t)-> ∀{st:St} {Q:St->List Res->Prop},
  (∀s rs,s.en=st.en->s.cnt=st.cnt->(∀t,U t->s.fr t=st.fr t)->(∀t,¬D t->s.fr t=st.fr t)->mA (List.replicate m.length qP) rs->Q s rs)->qY L m st Q
 |[],_,st,Q,h=>h st [] rfl rfl (fun _ _=>rfl) (fun _ _=>rfl) trivial
 |o::m,hm,st,Q,h=>by
  have ih: ∀(st1:St) (r:Res),st1.en=st.en->st1.cnt=st.cnt->(∀t,U t->st1.fr t=st.fr t)->(∀t,¬D t->st1.fr t=st.fr t)->qP={r with v:= .dead}->qY L m st1 fun s rs=>Q s (r::rs):=fun st1 r a1 a2 a3 a4 a5=>
   aRr m (fun o ho=>hm o (bQz _ ho)) fun s rs b1 b2 b3 b4 b5=>h s (r::rs) (b1.trans a1) (b2.trans a2) (fun t ht=>(b3 t ht).trans (a3 t ht)) (fun t ht=>(b4 t ht).trans (a4 t ht)) ⟨a5,b5⟩
  rcases hm o (by simp)with rfl|⟨d,v,rfl,hd⟩
  ·exact⟨rfl,ih st _ rfl rfl (fun _ _=>rfl) (fun _ _=>rfl) rfl⟩
  ·refine⟨rfl,ih _ _ rfl rfl (fun t ht=>?_) (fun t ht=>?_) rfl⟩
   ·exact pH fun x hx e=>(hd x hx).1 (e▸ht)
   ·exact pH fun x hx e=>ht (e▸(hd x hx).2)
theorem aRs : ∀{fs rs fs' rs':List Res},mA fs rs->mA fs' rs'->mA (fs++fs') (rs++rs')
 |[],[],_,_,_,h=>h
 |a::l,b::m,_,_,h,k=>⟨h.1,aRs h.2 k⟩
 |[],_::_,_,_,h,_=>h.elim
 |_::_,[],_,_,h,_=>h.elim
theorem aUt {L:bJ}{o:aM}{s:St}{K:Val->St->Prop}(h:lZ L o st K)(he:s.en=st.en)(hc:s.cnt=st.cnt)(hf: ∀t∈o.uses,s.fr t=st.fr t):
  lZ L o s fun v s2=>K v ⟨st.fr,s2.en,s2.cnt⟩/\ s2.fr=s.fr:=by
 have hw:wanted s.fr o.guard=wanted st.fr o.guard:=by
  cases hg:o.guard with
  |none=>rfl
  |some p=>
   obtain⟨t,b⟩:=p;simp only[wanted];rw[hf t (by simp[aM.uses,hg])]
 have hgt: ∀x∈o.op.opds,St.get s.fr x=St.get st.fr x:=by
  intro x hx;cases x with
  |t i=>exact hf i (by simp only[aM.uses,bPn,bQa];exact .inl ⟨_,hx,by simp[Opd.tmp]⟩)
  |c v=>rfl
  |f i=>rfl
  |m tbl i=>simp only[St.get];rw[hf i (by simp only[aM.uses,bPn,bQa];exact .inl ⟨_,hx,by simp[Opd.tmp]⟩)]
 obtain⟨fr,en,cnt⟩:=st;obtain⟨fr2,en2,cnt2⟩:=s
 simp only at he hc
 subst he hc;unfold lZ at h⊢;rw[hw]
 split at h
 case h_2=>cases h
 split at h
 ·rename_i x hop;simp only[hop]at hgt⊢;rw[hgt x (by simp[LOp.opds])]
  split at h
  case h_2=>cases h
  rename_i t u hu;rw[hu];exact⟨h.1,h.2,by first|rfl|trivial⟩
 ·rename_i f args hop;simp only[hop]at hgt⊢;rw[hgt f (by simp[LOp.opds]),show args.map (St.get fr2)=args.map (St.get fr)from bQ5 fun p hp=>hgt p (by simp[LOp.opds,hp])]
  split at h
  case h_2=>cases h
  rename_i f' a b hf1 hf2
  split at h
  case h_2=>cases h
  rename_i rs hrs;obtain⟨v,h1,h2⟩:=h;rw[hf1,hf2];simp only[hrs];exact⟨v,h1,h2,by first|rfl|trivial⟩
 ·rename_i f args hop;simp only[hop]at hgt⊢;rw[hgt f (by simp[LOp.opds]),show args.map (St.get fr2)=args.map (St.get fr)from bQ5 fun p hp=>hgt p (by simp[LOp.opds,hp])]
  split at h
  case h_2=>cases h
  rename_i f' a b hf1;rw[hf1];exact h.mono fun v en' cnt' hk=>⟨hk,by first|rfl|trivial⟩
 ·cases h
theorem aJ4 (h:mA fs rs)(hp:jT an j l fs=true):jT an j l rs=true:=by
 unfold jT at hp⊢
 refine bO4.2 fun i hi=>?_
 have:=bO4.1 hp i hi;simp only[bP3]at this⊢
 refine this.imp id fun h2=>?_
 rcases aAo h i with⟨a1,_⟩|⟨b,a1,a2⟩
 ·rw[a1]at h2;cases h2
 ·rw[a1]at h2;rw[a2];exact h2
theorem aWa {L:bJ}{C:List Res->Prop}{R:Val->St->Prop}(j:Nat){o:aM}(hj:l[j]?=some o)(ht:aEm an j l=true)(hC: ∀fs rs,mA fs rs->C fs->C rs)
  (h:lD L (l.take j) st fun st1 fs=>C (fs++List.replicate (l.length-j) qP)/\ lZ L o st1 fun v st2=>R v ⟨fun t=>if mN l t then .tup []else st2.fr t,st2.en,st2.cnt⟩):
  (iW L (l.take j) st fun s=>lZ L o s fun _ _=>True)/\ qY L (dD an j l) st fun st1 rs=>C rs/\ lZ L o st1 fun v st2=>R v ⟨fun t=>if mN l t then .tup []else st2.fr t,st2.en,st2.cnt⟩:=by
 have hjl:j<l.length:=(bSe.1 hj).1;have hr:=aAn _ h
 refine⟨aV9 _ hr fun s rs ⟨_,_,_,h3⟩=>tY h3 fun _ _ _=>trivial,?_⟩
 rw[bAr ht (by omega)]
 have hoj:l.getD j default=o:=by simp[bO2,hj]
 have htl:(aDb an j l).length=l.length-j:=by simp[aDb]
 refine aJ3 _ _ (tB _ hr fun s rs ⟨fs,h1,h2,h3⟩=>aRr (U:=fun t=>t∈o.uses) (D:=fun t=>mN l t=true) _ (fun x hx=>?_) fun s' rs' a1 a2 a3 a4 a5=>⟨?_,?_⟩)
 ·refine(aXr ht (by omega) x hx).imp id ?_
  rintro⟨y,hy,v,rfl,hd⟩
  refine⟨y.dst,v,rfl,fun t e=>⟨by rw[<-hoj];exact hd t e,?_⟩⟩
  simp only[mN,bRy,beq_iff_eq];exact⟨y,hy,e⟩
 ·rw[htl]at a5;exact hC _ _ (aRs h1 a5) h2
 ·refine tY (aUt h3 a1 a2 a3) ?_
  rintro v s2 ⟨hk,e⟩
  have:(fun t=>if mN l t then Val.tup []else s.fr t)=fun t=>if mN l t then Val.tup []else s2.fr t:=by
   funext t
   by_cases hd:mN l t=true
   ·rw[if_pos hd,if_pos hd]
   ·rw[if_neg hd,if_neg hd,e,a4 t hd]
  rw[this]at hk;exact hk
theorem jW {L:bJ}{R:Ex->St->Prop}(j:Nat){o:aM}(hj:l[j]?=some o)(ht:aEm an j l=true)
  (h:lD L (l.take j) st fun st1 fs=>(dS (fs++List.replicate (l.length-j) qP) pairs&&jT an j l (fs++List.replicate (l.length-j) qP))=true/\
   lZ L o st1 fun v st2=>R (.panic v) ⟨fun t=>if mN l t then .tup []else st2.fr t,st2.en,st2.cnt⟩):Wp L (.drawP l an pairs) st R:=by
 obtain⟨h1,h2⟩:=aWa (R:=fun v st=>R (.panic v) st) (C:=fun fs=>(dS fs pairs&&jT an j l fs)=true) j hj ht (fun fs rs hs hc=>by
  rw[bOx]at hc⊢;exact⟨uD hs _ hc.1,aJ4 hs hc.2⟩) h
 exact .inr ⟨j,o,hj,h1,h2⟩
variable {A:Nat}
theorem aM7 (h:mA fs rs)(hp:oS an A k fs=true):oS an A k rs=true:=by
 have hlen:fs.length=rs.length:=by
  clear hp
  induction fs generalizing rs with
  |nil=>cases rs with
   |nil=>rfl
   |cons=>exact h.elim
  |cons f fs ih=>cases rs with
   |nil=>exact h.elim
   |cons r rs=>simp only[bO7];rw[ih h.2]
 unfold oS at hp⊢
 refine bO4.2 fun i hi=>?_
 have:=bO4.1 hp i (by rwa [hlen])
 simp only[bP3]at this⊢
 refine this.imp id fun h2=>?_
 rcases aAo h i with⟨a1,_⟩|⟨b,a1,a2⟩
 ·rw[a1]at h2;cases h2
 ·rw[a1]at h2;rw[a2];exact h2
variable {z:List Val}
theorem oG {L:bJ}{R:Ex->St->Prop}(hA:l[A]?=some {dst:=some d,op:= .alloc z,guard:=none})
  (h:lD L (l.set A {dst:=some d,op:= .mv (.c (.ptr ⟨0,d,cnt 0 d⟩ 0)),guard:=none}) ⟨fr,en.set ⟨0,d,cnt 0 d⟩ (some (.box z false)),aC cnt 0 d (cnt 0 d+1)⟩ fun st' rs=>dS rs pairs=true/\ oS an A ⟨0,d,cnt 0 d⟩ rs=true/\ R .normal st'):
  Wp L (.drawL l an pairs A) ⟨fr,en,cnt⟩ R:=by
 have hg:l.getD A default={dst:=some d,op:= .alloc z,guard:=none}:=by rw[bO2,hA];rfl
 have hL:iY A ⟨0,d,cnt 0 d⟩ l=l.set A {dst:=some d,op:= .mv (.c (.ptr ⟨0,d,cnt 0 d⟩ 0)),guard:=none}:=by unfold iY zG;rw[hg]
 have hK:iH ⟨fr,en,cnt⟩ {dst:=some d,op:= .alloc z,guard:=none}=⟨0,d,cnt 0 d⟩:=rfl
 refine .inl ?_
 rw[hg,hK,hL];exact tB _ (aAn _ h) fun s rs ⟨fs,h1,h2,h3,h4⟩=>⟨by rw[bOx];exact⟨uD h1 _ h2,aM7 h1 h3⟩,h4⟩
theorem aRt {L:bJ}{R:Ex->St->Prop}(hA:l[A]?=some {dst:=some d,op:= .alloc z,guard:=none})(j:Nat){o:aM}
  (hj:(l.set A {dst:=some d,op:= .mv (.c (.ptr ⟨0,d,cnt 0 d⟩ 0)),guard:=none})[j]?=some o) (ht:aEm an j (l.set A {dst:=some d,op:= .mv (.c (.ptr ⟨0,d,cnt 0 d⟩ 0)),guard:=none})=true)
  (h:lD L ((l.set A {dst:=some d,op:= .mv (.c (.ptr ⟨0,d,cnt 0 d⟩ 0)),guard:=none}).take j) ⟨fr,en.set ⟨0,d,cnt 0 d⟩ (some (.box z false)),aC cnt 0 d (cnt 0 d+1)⟩ fun st1 fs=>
   ((dS (fs++List.replicate ((l.set A {dst:=some d,op:= .mv (.c (.ptr ⟨0,d,cnt 0 d⟩ 0)),guard:=none}).length-j) qP) pairs&&
    jT an j (l.set A {dst:=some d,op:= .mv (.c (.ptr ⟨0,d,cnt 0 d⟩ 0)),guard:=none}) (fs++List.replicate ((l.set A {dst:=some d,op:= .mv (.c (.ptr ⟨0,d,cnt 0 d⟩ 0)),guard:=none}).length-j) qP))&&
    oS an A ⟨0,d,cnt 0 d⟩ (fs++List.replicate ((l.set A {dst:=some d,op:= .mv (.c (.ptr ⟨0,d,cnt 0 d⟩ 0)),guard:=none}).length-j) qP))=true/\
   lZ L o st1 fun v st2=>R (.panic v) ⟨fun t=>if mN (l.set A {dst:=some d,op:= .mv (.c (.ptr ⟨0,d,cnt 0 d⟩ 0)),guard:=none}) t then .tup []else st2.fr t,st2.en,st2.cnt⟩):
  Wp L (.drawL l an pairs A) ⟨fr,en,cnt⟩ R:=by
 have hg:l.getD A default={dst:=some d,op:= .alloc z,guard:=none}:=by rw[bO2,hA];rfl
 have hL:iY A ⟨0,d,cnt 0 d⟩ l=l.set A {dst:=some d,op:= .mv (.c (.ptr ⟨0,d,cnt 0 d⟩ 0)),guard:=none}:=by unfold iY zG;rw[hg]
 have hK:iH ⟨fr,en,cnt⟩ {dst:=some d,op:= .alloc z,guard:=none}=⟨0,d,cnt 0 d⟩:=rfl;obtain⟨h1,h2⟩:=aWa (R:=fun v st=>R (.panic v) st) (C:=fun fs=>((dS fs pairs&&jT an j (l.set A {dst:=some d,op:= .mv (.c (.ptr ⟨0,d,cnt 0 d⟩ 0)),guard:=none}) fs)&&oS an A ⟨0,d,cnt 0 d⟩ fs)=true) j hj ht (fun fs rs hs hc=>by
  rw[bOx,bOx]at hc⊢;exact⟨⟨uD hs _ hc.1.1,aJ4 hs hc.1.2⟩,aM7 hs hc.2⟩) h
 refine .inr ⟨j,o,?_⟩
 rw[hg,hK,hL];exact⟨hj,h1,h2⟩
variable {K:Val->Prop}{a':List Val}{f:Nat}{r:Val}
section
variable {L :bJ}{K:Val->St->Prop}
def WPx (L:bJ)(f:Nat)(args:List Val)(K:Val->Prop):Prop:= ∃v,PX L f args v/\ K v
@[congr] theorem bH4 {K:Val->Prop}(h:a=a'):WPx L f a K=WPx L f a' K:=by rw[h]
theorem _root_.Go.Abs.PX.det {L:bJ}{args:List Val}{s:Val}(h:PX L f args r)(k:PX L f args s):s=r:=by
 obtain⟨n,h⟩:=h;obtain⟨m,k⟩:=k;have h1:=h (max n m) (by omega);have h2:=k (max n m) (by omega)
 rw[h1]at h2;cases h2;rfl
theorem _root_.Go.Abs.PX.ret {L:bJ}{args:List Val}(h:PX L f args r){K:Val->Prop}:WPx L f args K=K r:=
 propext ⟨fun⟨s,h1,h2⟩=>h.det h1▸h2,fun h2=>⟨r,h,h2⟩⟩
def bAs (L:bJ)(f:Nat)(o:Option (List (Val×List Key)))(K:Val->Prop):Prop:=
 match o with
 |some rs=>WPx L f (rs.map (·.1.wk1)) K
 |none=>False
@[congr] theorem bGu {o o':Option (List (Val×List Key))}{K:Val->Prop}(h:o=o'):bAs L f o K=bAs L f o' K:=by rw[h]
@[go_sem] theorem bOt {rs:List (Val×List Key)}{K:Val->Prop}:bAs L f (some rs) K=WPx L f (rs.map (·.1.wk1)) K:=(rfl)
@[go_sem] theorem bJk :lZ L ⟨dst,.call (.f f) args,none⟩ ⟨fr,en,cnt⟩ K=bAs L f (cU (snapD 8 en) (args.map (St.get fr))) fun v=>K v ⟨fr,en,cnt⟩:=by
 simp only[lZ,wanted,Opd.noM,St.get,bP1,bPx,bAs,WPx];cases cU (snapD 8 en) (List.map (St.get fr) args)<;>rfl
@[congr] theorem bGv {K:Val->En->(Nat->Nat->Nat)->Prop}(h:a=a'):wF L f a en cnt K=wF L f a' en cnt K:=by rw[h]
def aRu (L:bJ)(f:Val)(args:List Val)(en:En)(cnt:Nat->Nat->Nat)(K:Val->En->(Nat->Nat->Nat)->Prop):Prop:=
 match f with
 | .fn f a b=>wF L f (a++args++b) en cnt K
 |_=>False
@[congr] theorem bFe {f f':Val}{K:Val->En->(Nat->Nat->Nat)->Prop}(h:f=f')(h':a=a'):aRu L f a en cnt K=aRu L f' a' en cnt K:=by rw[h,h']
@[go_sem] theorem bH5 {f:Opd}:lZ L ⟨dst,.icall f args,none⟩ ⟨fr,en,cnt⟩ K=aRu L (St.get fr f) (args.map (St.get fr)) en cnt fun v en' cnt'=>K v ⟨fr,en',cnt'⟩:=by
 simp only[lZ,wanted,aRu];cases St.get fr f<;>rfl
@[go_sem] theorem bOp {args:List Val}{K:Val->En->(Nat->Nat->Nat)->Prop}:aRu L (.fn f a b) args en cnt K=wF L f (a++args++b) en cnt K:=(rfl)
def aRv (v:Val)(K:Val->Prop):Prop:=match v with
 | .ifc t u=>(Val.ifc t u).flat=true/\ K (.ifc t u)
 |_=>False
@[congr] theorem bFf {v':Val}{K:Val->Prop}(h:v=v'):aRv v K=aRv v' K:=by rw[h]
@[go_sem] theorem bH6 :lZ L ⟨dst,.panic x,none⟩ ⟨fr,en,cnt⟩ K=aRv (St.get fr x) fun v=>K v ⟨fr,en,cnt⟩:=by
 simp only[lZ,wanted,aRv];cases St.get fr x<;>rfl
@[go_sem] theorem bOq {u:Val}{K:Val->Prop}:aRv (.ifc t u) K=((Val.ifc t u).flat=true/\ K (.ifc t u)):=(rfl)
end
def aEn (P:Program)(g:Nat):List Nat:=(P.funcs[g]?).elim [] P.leadsTo
theorem aO2 {P:Program}{G:Nat->Prop}(hc: ∀g,G g-> ∀h∈aEn P g,G h): ∀(n:Nat) (todo seen:List Nat),(∀g∈todo,G g)->(∀g∈seen,G g)-> ∀g∈P.closureVia n todo seen,G g
 |0,_,seen,_,hs=>fun g hg=>hs g (by simpa[Program.closureVia]using hg)
 |n+1,[],seen,_,hs=>fun g hg=>hs g (by simpa[Program.closureVia]using hg)
 |n+1,f::todo,seen,ht,hs=>by
  rw[Program.closureVia];split
  ·exact aO2 hc n todo seen (fun g hg=>ht g (bQz _ hg)) hs
  ·refine aO2 hc n _ _ (fun g hg=>?_) (fun g hg=>?_)
   ·rcases bPn.1 hg with h|h
    ·exact hc f (ht f bR7) g h
    ·exact ht g (bQz _ h)
   ·rcases bP0.1 hg with rfl|h
    ·exact ht g bR7
    ·exact hs g h
def jE (P:Program)(seen:List Nat):List Nat->Nat
 |[]=>0
 |g::l=>(if seen.contains g then 0 else(aEn P g).length)+jE P seen l
theorem aO3 {P:Program}{seen:List Nat}(f:Nat): ∀l,jE P (f::seen) l<=jE P seen l
 |[]=>bOy _
 |g::l=>by
  have:=aO3 (P:=P) (seen:=seen) f l;simp only[jE,List.contains_cons]
  by_cases h:(g==f)=true<;>by_cases h2:seen.contains g=true<;>simp[h,h2]<;>omega
theorem aM8 {P:Program}{seen:List Nat}{f:Nat}(hf:seen.contains f=false): ∀l,f∈l->jE P (f::seen) l+(aEn P f).length<=jE P seen l
 |[],h=>by cases h
 |g::l,h=>by
  have h1:=aO3 (P:=P) (seen:=seen) f l;simp only[jE,List.contains_cons]
  by_cases e:g=f
  ·subst e;simp only[beq_self_eq_true,Bool.true_or,if_true,hf,bO0,if_false];omega
  ·have hm:f∈l:=by
    rcases bP0.1 h with h|h
    ·exact absurd h.symm e
    ·exact h
   have h2:=aM8 (P:=P) hf l hm;have:(g==f)=false:=by simpa using e
   simp only[this,bPv];omega
theorem aO4 {P:Program}: ∀(n:Nat) (todo seen:List Nat),todo.length+jE P seen (List.range P.funcs.size)<=n->(∀g∈seen,∀h∈aEn P g,h∈seen \/h∈todo)->
  (∀g,g∈seen \/g∈todo->g∈P.closureVia n todo seen)/\ ∀g∈P.closureVia n todo seen,∀h∈aEn P g,h∈P.closureVia n todo seen
 |0,todo,seen,hn,hi=>by
  have:todo=[]:=bSc.1 (by omega)
  subst this
  refine⟨fun g hg=>?_,fun g hg h hh=>?_⟩
  ·rcases hg with h|h
   ·simpa[Program.closureVia]using h
   ·cases h
  ·have hg':g∈seen:=by simpa[Program.closureVia]using hg
   rcases hi g hg' h hh with h|h
   ·simpa[Program.closureVia]using h
   ·cases h
 |n+1,[],seen,hn,hi=>by
  refine⟨fun g hg=>?_,fun g hg h hh=>?_⟩
  ·rcases hg with h|h
   ·simpa[Program.closureVia]using h
   ·cases h
  ·have hg':g∈seen:=by simpa[Program.closureVia]using hg
   rcases hi g hg' h hh with h|h
   ·simpa[Program.closureVia]using h
   ·cases h
 |n+1,f::todo,seen,hn,hi=>by
  rw[Program.closureVia]
  by_cases hf:seen.contains f=true
  ·rw[if_pos hf];have hfs:f∈seen:=by simpa using hf
   simp only[bO7]at hn;obtain⟨a,b⟩:=aO4 (P:=P) n todo seen (by omega) (fun g hg h hh=>by
    rcases hi g hg h hh with h1|h1
    ·exact .inl h1
    ·rcases bP0.1 h1 with rfl|h1
     ·exact .inl hfs
     ·exact .inr h1)
   refine⟨fun g hg=>a g ?_,b⟩
   rcases hg with h|h
   ·exact .inl h
   ·rcases bP0.1 h with rfl|h
    ·exact .inl hfs
    ·exact .inr h
  ·rw[if_neg hf];have hf':seen.contains f=false:=by simpa using hf
   have hlen:(aEn P f).length+jE P (f::seen) (List.range P.funcs.size)<=jE P seen (List.range P.funcs.size):=by
    by_cases hs:f<P.funcs.size
    ·have:=aM8 (P:=P) hf' _ (bPu.2 hs);omega
    ·have:aEn P f=[]:=by unfold aEn;rw[Array.getElem?_eq_none (by omega)];rfl
     rw[this];have:=aO3 (P:=P) (seen:=seen) f (List.range P.funcs.size)
     simpa using this
   simp only[bO7]at hn;obtain⟨a,b⟩:=aO4 (P:=P) n (aEn P f++todo) (f::seen) (by simp only[bPg];omega) (fun g hg h hh=>by
    rcases bP0.1 hg with rfl|hg
    ·exact .inr (bQ9 _ hh)
    ·rcases hi g hg h hh with h1|h1
     ·exact .inl (bQz _ h1)
     ·rcases bP0.1 h1 with rfl|h1
      ·exact .inl bR7
      ·exact .inr (bQ0 _ h1))
   refine⟨fun g hg=>a g ?_,b⟩
   rcases hg with h|h
   ·exact .inl (bQz _ h)
   ·rcases bP0.1 h with rfl|h
    ·exact .inl bR7
    ·exact .inr (bQ0 _ h)
theorem aRw {P:Program}: ∀(l:List Func) (k:Nat),(∀i,i<l.length->P.funcs[k+i]?=l[i]?)->jE P [] (List.range' k l.length)<=(l.map fun g=>(P.leadsTo g).length+1).sum
 |[],_,_=>bO8 _
 |g::l,k,h=>by
  have h0:=h 0 (by simp)
  have ih:=aRw (P:=P) l (k+1) (fun i hi=>by
   have:=h (i+1) (by simp;omega)
   rw[show k+1+i=k+(i+1)by omega,this];rfl)
  simp only[bQh,bRf]at h0;have e:aEn P k=P.leadsTo g:=by unfold aEn;rw[h0];rfl
  simp only[bO7,bRu,jE,e,bPw,List.sum_cons];have:([]:List Nat).contains k=false:=rfl;rw[this];simp only[bO0,if_false];omega
theorem aAq (P:Program)(f:Nat):f∈P.closure f/\ ∀g∈P.closure f,∀h∈aEn P g,h∈P.closure f:=by
 have hr:=aRw (P:=P) P.funcs.toList 0 (fun i _=>by simp)
 rw[<-bR2,bQ4]at hr;obtain⟨a,b⟩:=aO4 (P:=P) (1+(P.funcs.toList.map fun g=>(P.leadsTo g).length+1).sum) [f] [] (by simp only[bO7,bPe];omega) (fun g hg=>by cases hg)
 exact⟨a f (.inr bR7),b⟩
variable {fn:Func}
theorem yI {h:Nat}(hg:g∈P.closure f)(hfn:P.funcs[g]?=some fn)(hh:(P.leadsTo fn).contains h=true):h∈P.closure f:=
 (aAq P f).2 g hg h (by unfold aEn;rw[hfn];simpa using hh)
theorem bGw {q:Func->Nat->Bool}(h:(P.funcs.toList.zipIdx.all fun p=>q p.1 p.2)=true)(hfn:P.funcs[g]?=some fn):q fn g=true:=by
 rw[bO4]at h;exact h (fn,g) (by rw[List.mem_zipIdx_iff_getElem?];simpa using hfn)
def bFg (P:Program)(good:Nat→Bool):Bool:=P.funcs.toList.zipIdx.all fun p=>(p.1.body.elim [] Code.globalsNamed).isEmpty&&(!good p.2||((P.leadsTo p.1).all good&&!(p.1.ours||p.1.body.isNone||p.1.name== "runtime.NumGoroutine")))
theorem aEo {good:Nat->Bool}(h:bFg P good=true)(hf:good f=true):P.inPlace f=[]/\ P.varsNamed f=[]:=by
 have hz:=fun g fn hfn=>bGw (q:=fun a b=>(a.body.elim [] Code.globalsNamed).isEmpty&&(!good b||((P.leadsTo a).all good&&!(a.ours||a.body.isNone||a.name== "runtime.NumGoroutine")))) h (g:=g) (fn:=fn) hfn
 have hg: ∀g∈P.closure f,good g=true:=by
  refine aO2 (P:=P) (G:=fun g=>good g=true) (fun g hg x hx=>?_) _ _ _ (fun g hg=>?_) (fun g hg=>by cases hg)
  ·unfold aEn at hx;cases hfn:P.funcs[g]? with
   |none=>rw[hfn]at hx;cases hx
   |some fn=>
    rw[hfn]at hx;have:=hz g fn hfn;simp only[hg,bPd,bPv,bOx,bO4]at this;exact this.2.1 x hx
  ·rw[bQf.1 hg];exact hf
 have hodd: ∀g∈P.closure f,∀fn,P.funcs[g]?=some fn→(fn.ours||fn.body.isNone||fn.name== "runtime.NumGoroutine")=false:=fun g h1 fn hfn=>by
  have:=hz g fn hfn;simp only[hg g h1,bPd,bPv,bOx]at this
  simpa using this.2.2
 constructor
 ·unfold Program.inPlace;rw[List.filterMap_eq_nil_iff];intro g h1;cases hfn:P.funcs[g]? with
  |none=>rfl
  |some fn=>
   simp only[bRq];rw[hodd g h1 fn hfn];rfl
 ·unfold Program.varsNamed;have e1:((P.closure f).flatMap fun g=>((P.funcs[g]?).bind (·.body)).elim [] Code.globalsNamed)=[]:=by
   rw[List.flatMap_eq_nil_iff];intro g h1;cases hfn:P.funcs[g]? with
   |none=>rfl
   |some fn=>
    have:=hz g fn hfn;simp only[bOx,bRw]at this;simp only[bRq];exact this.1
  have e2:((P.closure f).filterMap fun g=>(P.funcs[g]?).bind fun fn=>if fn.body.isNone then entryReads.lookup fn.name else none)=[]:=by
   rw[List.filterMap_eq_nil_iff];intro g h1;cases hfn:P.funcs[g]? with
   |none=>rfl
   |some fn=>
    have:=hodd g h1 fn hfn;simp only[Bool.or_eq_false_iff]at this;simp only[bRq,this.1.2,bO0,if_false]
  rw[e1,e2];rfl
theorem bAt (hg:g∈P.closure f)(hfn:P.funcs[g]?=some fn)(h:(match fn.body with|some c=>c.unfollowed|none=>entryCalls fn)=true):P.unfollowed f=true/\ P.recurses f=true:=by
 have:P.unfollowed f=true:=by
  unfold Program.unfollowed;rw[bRy];exact⟨g,hg,by rw[hfn];exact h⟩
 exact⟨this,by unfold Program.recurses;rw[this];rfl⟩
def orC (m c:bH):bH:=fun f a=>match m f a with
 |some r=>some r
 |none=>c f a
def unC (m c:bH):bH:=fun f a=>match m f a with
 |some _=>none
 |none=>c f a
def aJ5 (L:bJ)(m:bH):Nat->bB->St->Option (Ex×St)
 |0=>fun _ _=>none
 |n+1=>sJ L (aJ5 L m n) (orC m (bM L 8 (aJ5 L m n))) (unC m (cR L (aJ5 L m n)))
theorem aRx {L:bJ}{m:bH}{N:Nat}(hm:CLe m (lC L N)): ∀n,XLe (aJ5 L m n) (exec L (N+n))
 |0=>fun c s r h=>by simp[aJ5]at h
 |n+1=>by
  have ih:=aRx hm n;rw[show N+(n+1)=(N+n)+1 from rfl,aGb]
  refine aV3 ih (fun f a r h=>?_) (fun f a r h=>?_)
  ·unfold orC at h
   split at h
   ·rename_i hq;cases h;exact aAe (by omega) (hm _ _ _ hq)
   ·exact xA ih _ _ _ h
  ·unfold unC at h
   split at h
   ·cases h
   ·exact aRe ih _ _ _ h
structure aV where
 f:Nat
 a:List Val
 r:Val
def aRy :List aV->bH
 |[],_,_=>none
 |e::l,f,a=>if e.f=f then(if qR (rI 50) e.a a=true then some e.r else aRy l f a)else aRy l f a
def bC (L:bJ)(l:List aV):Prop:= ∃N,CLe (aRy l) (lC L N)
theorem bC.nil {L:bJ}:bC L []:=⟨0,fun _ _ _ h=>by simp[aRy]at h⟩
theorem bC.pc {L:bJ}{l:List aV}(h:bC L l)(hr:bM L 8 (aJ5 L (aRy l) n) f a=some r):PC L f a r:=by
 obtain⟨N,hN⟩:=h;exact bGh (xA (aRx hN n) _ _ _ hr)
theorem bC.add {L:bJ}{l:List aV}(h:bC L l)(hr:PC L f a r):bC L (⟨f,a,r⟩::l):=by
 obtain⟨N,hN⟩:=h;obtain⟨M,hM⟩:=hr
 refine⟨N+M,fun g b q hq=>?_⟩
 simp only[aRy]at hq
 split at hq
 ·rename_i e1
  split at hq
  ·rename_i e2;cases hq;subst e1;cases aDw (aDx 50) e2;exact hM _ (by omega)
  ·exact aAe (by omega) (hN _ _ _ hq)
 ·exact aAe (by omega) (hN _ _ _ hq)
theorem bC.step {L:bJ}{e:aV}{l:List aV}(h:bC L l)(hr:bM L 8 (aJ5 L (aRy l) 1000) e.f e.a=some e.r):bC L (e::l):=h.add (h.pc hr)
theorem bC.one {L:bJ}{e:aV}{l:List aV}(h:bC L (e::l)):bC L [e]:=by
 obtain⟨N,hN⟩:=h
 refine⟨N,fun f a r hr=>hN f a r ?_⟩
 simp only[aRy]at hr⊢
 split at hr
 ·rename_i e1
  split at hr
  ·rename_i e2;rw[if_pos e1,if_pos e2];exact hr
  ·cases hr
 ·cases hr
end Go.Abs
