/- Contracts of functions of the program and of the document: part 7. -/
import Derived.Test.YtmnchlhngpdffaaGreatM5
import Derived.Test.YtmnchlhngpdffaaGreatM2
set_option linter.all false
open Bool renaming and_eq_true -> bOx, and_false -> bQc, and_true -> bQ2, eq_iff_iff -> bRd, false_and -> bPm, false_or -> bPv, not_eq_true' -> bQb, not_false -> bPh, not_true -> bPd, or_eq_true -> bP3, true_and -> bPr
open Int renaming eq_ofNat_of_zero_le -> bP2, tdiv_eq_ediv_of_nonneg -> bSh, toNat_natCast -> bPz
open List renaming all_eq_true -> bO4, append_nil -> bPx, drop_length -> bQt, getD_eq_getElem?_getD -> bO2, getElem?_eq_getElem -> bP7, getElem_mem -> bO6, length_map -> bOz, length_pos_iff -> bRv, mem_append -> bPn, mem_append_left -> bQ9, mem_append_right -> bQ0, mem_cons -> bP0, mem_filter -> bQi, mem_flatMap -> bQa, mem_map -> bPt, mem_range -> bPu, nil_append -> bP1, replicate_succ -> bP9, replicate_zero -> bP8, take_succ_cons -> bO5, take_zero -> bO3
open Nat renaming add_zero -> bQh, div_mul_le_self -> bSd, le_of_lt -> bQm, le_refl -> bOy, le_trans -> bPb, lt_of_lt_of_le -> bPo, lt_or_ge -> bP4, mul_le_mul_right -> bP5, zero_le -> bO8
namespace Go.Proofs.YtmnchlhngpdffaaGreat
open Go.Abs Go.Proofs Tryz
theorem zT{p:Prop}[Decidable p](h:p):decide p=true:=decide_eq_true h
theorem zF{p:Prop}[Decidable p](h:¬p):decide p=false:=decide_eq_false h
set_option maxRecDepth 100000
set_option maxHeartbeats 4000000
theorem tH (p:aF)(l:cC)(hp:p.few)(hl:l.few)(hsp:aS p=true)(h:aGw p l=true):PC L 55 [.agg p.cs,.agg l.cs] ((ply p l)):=by
 have hC:=aC0 p l hp hl hsp;rw[if_pos h]at hC;have hL:=at_ func55
 conv at hL=>rhs;reduce
 refine aG hL rfl rfl ?_
 simp only[go_sem,kK]
 refine bL ?_
 simp only[go_sem,hC.ret,(bW _).ret]
theorem tI (p:aF)(l:cC)(hp:p.few)(hl:l.few)(hsp:aS p=true)(h:aGw p l=false):PX L 55 [.agg p.cs,.agg l.cs] (rF 2):=by
 have hC:=aC0 p l hp hl hsp;rw[h,if_neg (by decide)]at hC
 have hL:=at_ func55
 conv at hL=>rhs;reduce
 refine aAi hL rfl rfl ?_
 simp only[go_sem,kK]
 refine cK 4 rfl ?_
 simp only[go_sem,bO5,bO3,hC.ret,(cT _).ret]
variable {p:aF}{w:aA}
theorem aHz (hg:gG p w=true)(pick:Int):((dR p w pick).2.2=0/\ (zO p w pick).2.2.2=0/\ zO p w pick=fW p w pick/\ (dR p w pick).1=(fW p w pick).1/\ (dR p w pick).2.1=(fW p w pick).2.1) \/
  ((zO p w pick).2.2.2=5/\ (dR p w pick).2.2=6) \/((zO p w pick).2.2.2=8/\ (dR p w pick).2.2=8):=by
 unfold zO dR;rw[if_pos hg]
 simp only
 rcases aYz p w pick with h|h|h
 ·refine .inl ⟨?_,?_,?_,?_,?_⟩<;>simp[h]
 ·exact .inr (.inl ⟨by simp[h],by simp[h]⟩)
 ·exact .inr (.inr ⟨by simp[h],by simp[h]⟩)
theorem uY (p:aF)(l:cC)(w:aA)(pick:Int)(hp:p.few)(hw:w.few)(hsp:aS p=true)(hg:gG p w=true)(h:(dR p w pick).2.2=0):
  PC L 105 [(ply p l),.agg w.cs,.i pick] (.tup [.agg (dR p w pick).1.cs,evV (dR p w pick).2.1]):=by
 have hT:=aFr p w pick hp hw hsp;obtain⟨_,h0,e1,e2,e3⟩:(dR p w pick).2.2=0/\ (zO p w pick).2.2.2=0/\ zO p w pick=fW p w pick/\ (dR p w pick).1=(fW p w pick).1/\ (dR p w pick).2.1=(fW p w pick).2.1:=by
  rcases aHz hg pick with h'|⟨_,h'⟩|⟨_,h'⟩
  ·exact h'
  ·rw[h]at h';cases h'
  ·rw[h]at h';cases h'
 rw[h0,e1]at hT;rw[e2,e3];have hL:=at_ func105
 conv at hL=>rhs;reduce
 refine aG hL rfl rfl ?_
 simp only[go_sem,kK]
 refine aI ?_
 simp only[go_sem,hT.ret,evV,kA,kF]
 refine bL ?_
 simp only[go_sem,(bW _).ret]
 refine bL ?_
 simp only[go_sem,(bW _).ret]
 refine aI ?_
 simp only[go_sem,kA,kF]
theorem uZ (p:aF)(l:cC)(w:aA)(pick:Int)(hp:p.few)(hw:w.few)(hsp:aS p=true)(hg:gG p w=true)(h: ¬(dR p w pick).2.2=0):
  PX L 105 [(ply p l),.agg w.cs,.i pick] (rF (dR p w pick).2.2):=by
 have hT:=aFr p w pick hp hw hsp;rcases aHz hg pick with h'|⟨h1,h2⟩|⟨h1,h2⟩
 ·exact absurd h'.1 h
 ·rw[h1]at hT;rw[h2];have hL:=at_ func105
  conv at hL=>rhs;reduce
  refine aAi hL rfl rfl ?_
  simp only[go_sem,kK]
  refine aI ?_
  simp only[go_sem,hT.ret,evV,kA,kF]
  refine cK 2 rfl ?_
  simp only[go_sem,bO5,bO3,(cT _).ret]
 ·rw[h1]at hT;rw[h2];have hL:=at_ func105
  conv at hL=>rhs;reduce
  refine aAi hL rfl rfl ?_
  simp only[go_sem,kK]
  refine aI ?_
  simp only[go_sem,hT.ret,evV,kA,kF]
  refine bL ?_
  simp only[go_sem,(bW _).ret]
  refine cK 3 rfl ?_
  simp only[go_sem,bO5,bO3,(cT _).ret]
theorem aA.eq_iff {a b:aA}:decide (a=b)=(decide (a.objs=b.objs)&&decide (a.tasks=b.tasks)&&decide (a.outs=b.outs)&&decide (a.ins=b.ins)&&decide (a.used=b.used)):=by
 cases a;cases b;simp[Bool.and_assoc]
def aTe (g3:Nat)(en en':En):Prop:= ∀n t g,(n≠0 \/t∉[1,2,3,5,10,24] \/(t=3/\ g<g3))->en' ⟨n,t,g⟩=en ⟨n,t,g⟩
variable {en:En}{g3:Nat}
theorem aTe.refl :aTe g3 en en:=fun _ _ _ _=>rfl
variable {e:Option Ent}{en':En}{g t:Nat}
theorem aTe.set (h:aTe g3 en en')(ht:t∈[1,2,3,5,10,24])(hg:t=3->g3<=g):aTe g3 en (en'.set ⟨0,t,g⟩ e):=by
 intro n u g' k;rw[pZ,h n u g' k];intro he
 injection he with h1 h2 h3
 subst h1 h2 h3;rcases k with k|k|k
 ·exact k rfl
 ·exact k ht
 ·have:=hg k.1;omega
theorem aTe.step {en2:En}(h:aTe g3 en en')(k: ∀n t g,n≠0 \/(t≠24/\ t∉[24])->en2 ⟨n,t,g⟩=en' ⟨n,t,g⟩):aTe g3 en en2:=fun n t g q=>by
 rw[k n t g,h n t g q];rcases q with q|q|q
 ·exact .inl q
 ·exact .inr ⟨fun e=>q (by simp[e]),fun e=>q (by simp at e;simp[e])⟩
 ·exact .inr ⟨by omega,by simp;omega⟩
theorem aC1 (p:aF)(l:cC)(a b:Int):PC L 65 [(ply p l),.i a,.i b] (.fn 118 [] [.fp [.i a] 0,.fp [.i b] 0,.fp [(ply p l)] 0]):=by
 have hL:=at_ func65
 conv at hL=>rhs;reduce
 refine aG hL rfl rfl ?_
 simp only[go_sem,kK,kF]
theorem bHf :dN .eql .iface .nili .nili=some (.bool true):=(rfl)
theorem bHg {v:Val}:dN .eql .iface (.ifc t v) .nili=some (.bool false):=(rfl)
variable {k:Key}
theorem aY0 {a b:Option Ent}:(en.set k a).set k b=en.set k b:=by
 funext j
 by_cases h:j=k<;>simp[En.set,h]
variable {K:St->Prop}{cnt:Nat->Nat->Nat}{f x:Val}{fr:Nat->Val}
theorem lG {e:Ex}(he:e.rcvd=some .nili)(hK:K ⟨fr,en,cnt⟩):
  ∃st4,(∃n0,∀n,n0<=n->iB L (exec L n) (.fn 53 [] []) [x,f] e ⟨fr,en,cnt⟩=some st4)/\ K st4:=by
 have hL:=at_ func53
 conv at hL=>rhs;reduce
 refine sZ hL rfl he rfl rfl ?_
 simp only[go_sem,kK,bP1,bPx,bHf,kF];exact hK
theorem cD {e:Ex}{n:Int}(he:e.rcvd=some (rF n))
  (hf:WIn L f [] (en.set ⟨0,5,cnt 0 5⟩ (some (.box [.i n] false))) (aC cnt 0 5 (cnt 0 5+1)) fun _ en' cnt'=>en' k=some (.box [x] false)/\ en' ⟨0,5,cnt 0 5⟩=some (.box [.i n] false)/\ K ⟨fr,en'.set k (some (.box [.i n] false)),cnt'⟩):
  ∃st4,(∃n0,∀n,n0<=n->iB L (exec L n) (.fn 53 [] []) [.ptr k 0,f] e ⟨fr,en,cnt⟩=some st4)/\ K st4:=by
 have hL:=at_ func53
 conv at hL=>rhs;reduce
 refine sZ hL rfl he rfl rfl ?_
 simp only[go_sem,kK,rF,bP1,bPx,bHg,kF,if_true];rw[aY0]
 refine WIn.mono hf ?_
 rintro v e2 c2 ⟨k1,k2,hk⟩
 simp only[go_sem,k1,k2];exact hk
theorem aIg (w:aA):PC L 83 [.agg w.cs] (.i w.outs.length):=by
 have hL:=at_ func83
 conv at hL=>rhs;reduce
 refine aG hL rfl rfl ?_
 simp only[go_sem,kK,kF,bOz]
theorem aIh (w:aA):PC L 85 [.agg w.cs] (.i w.used):=by
 have hL:=at_ func85
 conv at hL=>rhs;reduce
 refine aG hL rfl rfl ?_
 simp only[go_sem,kK,kF]
theorem aMj (w:aA):PC L 87 [.agg w.cs] (.i w.objs.length):=by
 have hL:=at_ func87
 conv at hL=>rhs;reduce
 refine aG hL rfl rfl ?_
 simp only[go_sem,kK,kF,bOz]
def rZ (c:fO):Val:=
 if c.kind=1 then .ifc 194 (.agg [.i c.n,.i c.v.kind,.i c.v.n])
 else if c.kind=2 then .ifc 196 (.agg [.i c.n])
 else if c.kind=3 then .ifc 197 (.agg [.i c.n])
 else .ifc 198 (.agg [.i c.n])
variable {t1 t2 t3 t4:Nat}
theorem aY1 {v1 v2 v3 v4:Val}:yH [.ifc t1 v1,.ifc t2 v2,.ifc t3 v3,.ifc t4 v4] (IntKind.i64.wrap (1-1)).toNat=some (.ifc t1 v1):=(rfl)
theorem bEo :(0<=IntKind.i64.wrap (1-1))=True:=eq_true (by decide)
theorem aN0 {v1 v2 v3 v4:Val}:yH [.ifc t1 v1,.ifc t2 v2,.ifc t3 v3,.ifc t4 v4] (IntKind.i64.wrap (2-1)).toNat=some (.ifc t2 v2):=(rfl)
theorem aWr :(0<=IntKind.i64.wrap (2-1))=True:=eq_true (by decide)
theorem aN1 {v1 v2 v3 v4:Val}:yH [.ifc t1 v1,.ifc t2 v2,.ifc t3 v3,.ifc t4 v4] (IntKind.i64.wrap (3-1)).toNat=some (.ifc t3 v3):=(rfl)
theorem aWs :(0<=IntKind.i64.wrap (3-1))=True:=eq_true (by decide)
theorem aN2 {v1 v2 v3 v4:Val}:yH [.ifc t1 v1,.ifc t2 v2,.ifc t3 v3,.ifc t4 v4] (IntKind.i64.wrap (4-1)).toNat=some (.ifc t4 v4):=(rfl)
theorem aWt :(0<=IntKind.i64.wrap (4-1))=True:=eq_true (by decide)
theorem aP4 (c:fO)(h:rE c=true):PC L 90 [c.enc] (rZ c):=by
 obtain⟨kd,n,⟨vk,vn⟩⟩:=c;simp only[rE,bOx,bP3,bSi,jL,aD.mk.injEq]at h;obtain⟨⟨h1,h4⟩,hv⟩:=h
 refine aG bJm rfl rfl ?_
 have hk:kd=1 \/kd=2 \/kd=3 \/kd=4:=by omega
 rcases hk with rfl|rfl|rfl|rfl
 ·simp only[go_sem,kK,aL6,fO.enc,kF]
  refine bL ?_
  simp only[go_sem,kK,(bW _).ret,lW,iD,aY1,bEo,kF,if_true,rZ]
 ·have hv':vk=0/\ vn=0:=by simpa using hv
  obtain⟨rfl,rfl⟩:=hv';simp only[go_sem,kK,aL6,fO.enc,kF]
  refine bL ?_
  simp only[go_sem,kK,(bW _).ret,lW,iD,aN0,aWr,kF,if_true,rZ]
  refine bL ?_
  simp only[go_sem,(bW _).ret,kF,if_true]
 ·have hv':vk=0/\ vn=0:=by simpa using hv
  obtain⟨rfl,rfl⟩:=hv';simp only[go_sem,kK,aL6,fO.enc,kF]
  refine bL ?_
  simp only[go_sem,kK,(bW _).ret,lW,iD,aN1,aWs,kF,if_true,rZ]
  refine bL ?_
  simp only[go_sem,(bW _).ret,kF,if_true]
 ·have hv':vk=0/\ vn=0:=by simpa using hv
  obtain⟨rfl,rfl⟩:=hv';simp only[go_sem,kK,aL6,fO.enc,kF]
  refine bL ?_
  simp only[go_sem,kK,(bW _).ret,lW,iD,aN2,aWt,kF,if_true,rZ]
  refine bL ?_
  simp only[go_sem,(bW _).ret,kF,if_true]
theorem aP5 (c:fO)(h:rE c=false):PX L 90 [c.enc] (rF 2):=by
 obtain⟨kd,n,⟨vk,vn⟩⟩:=c;simp only[rE,jL]at h
 refine aAi bJm rfl rfl ?_
 by_cases h1:1<=kd
 ·by_cases h4:kd<=4
  ·have hk:kd=1 \/kd=2 \/kd=3 \/kd=4:=by omega
   have hv: ¬kd=1->(vk=0/\ vn=0)=False:=fun hne=>by
    simp[h1,h4,hne]at h
    simpa using h
   rcases hk with rfl|rfl|rfl|rfl
   ·simp at h
   ·have hv':(decide (vk=0)&&decide (vn=0))=false:=by
     have:=hv (by decide)
     rw[<-Bool.decide_and];simp[this]
    simp only[go_sem,kK,aL6,fO.enc]
    refine bL ?_
    simp only[go_sem,kK,(bW _).ret,lW,iD,aN0,aWr,kF,if_true]
    refine cK 4 rfl ?_
    simp only[go_sem,bO5,bO3,hv',(cT _).ret]
   ·have hv':(decide (vk=0)&&decide (vn=0))=false:=by
     have:=hv (by decide)
     rw[<-Bool.decide_and];simp[this]
    simp only[go_sem,kK,aL6,fO.enc]
    refine bL ?_
    simp only[go_sem,kK,(bW _).ret,lW,iD,aN1,aWs,kF,if_true]
    refine cK 4 rfl ?_
    simp only[go_sem,bO5,bO3,hv',(cT _).ret]
   ·have hv':(decide (vk=0)&&decide (vn=0))=false:=by
     have:=hv (by decide)
     rw[<-Bool.decide_and];simp[this]
    simp only[go_sem,kK,aL6,fO.enc]
    refine bL ?_
    simp only[go_sem,kK,(bW _).ret,lW,iD,aN2,aWt,kF,if_true]
    refine cK 4 rfl ?_
    simp only[go_sem,bO5,bO3,hv',(cT _).ret]
  ·simp only[go_sem,kK,aL6,fO.enc]
   refine cK 8 rfl ?_
   simp only[go_sem,kK,bO5,bO3,zT h1,zF h4,(cT _).ret]
 ·simp only[go_sem,kK,aL6,fO.enc]
  refine cK 8 rfl ?_
  simp only[go_sem,kK,bO5,bO3,zF h1,(cT _).ret]
theorem aVn (n:Int)(w:aA):PC L 387 [.agg [.i n],.agg w.cs] (.bool (decide (n<=(w.outs.length:Int)))):=by
 have hL:=at_ func387
 conv at hL=>rhs;reduce
 refine aG hL rfl rfl ?_
 simp only[go_sem,kK,kF,bOz]
theorem aVo (n:Int)(w:aA):PC L 389 [.agg [.i n],.agg w.cs] (.bool (decide (n<=(w.objs.length:Int)))):=by
 have hL:=at_ func389
 conv at hL=>rhs;reduce
 refine aG hL rfl rfl ?_
 simp only[go_sem,kK,kF,bOz]
theorem aP6 (n:Int)(w:aA)(hi: ∀a∈w.tasks,inR a 0 ((w.objs.length:Int)-1)=true):PC L 388 [.agg [.i n],.agg w.cs] (.bool (inR n 0 ((w.tasks.length:Int)-1)&&!decide ((w.obj (bA w n)).n=0))):=by
 have hL:=at_ func388
 conv at hL=>rhs;reduce
 refine aG hL rfl rfl ?_
 by_cases h0:0<=n
 ·obtain⟨m,rfl⟩:=bP2 h0
  by_cases h1:(m:Int)<w.tasks.length
  ·have h1':m<w.tasks.length:=by omega
   have ha:=hi _ (bO6 h1');have hr:inR (m:Int) 0 ((w.tasks.length:Int)-1)=true:=by simp[inR];omega
   have ht:bA w m=w.tasks[m]:=by simp[bA,h1']
   simp only[inR,bSi]at ha;obtain⟨j,hj⟩:=bP2 ha.1;have hj':j<w.objs.length:=by omega
   rw[hr,ht,hj];simp only[go_sem,kK,zT h0,h1',hj,hj',kF,bOz];rw[nR hj']
  ·have hr:inR (m:Int) 0 ((w.tasks.length:Int)-1)=false:=by simp[inR];omega
   rw[hr];simp only[go_sem,kK,zT h0,zF (show¬m<w.tasks.length by omega),kF,bOz,bPm]
 ·have hr:inR n 0 ((w.tasks.length:Int)-1)=false:=by simp[inR];omega
  rw[hr];simp only[go_sem,kK,zF h0,kF,bPm]
def aTf :jB:={np:=2,res:=[.tmp 4],keep:=false,body:=
 (.seq (.ops [bX 2 3 0,
 bX 3 5 1,
 mC 4 (.bool false)])
 (.seq (.draw [fA 5 0 2,
 l1 6 5,
 bN 7 .geq (.t 6) (cI 0),
 mT 8 7,
 gF 9 8 true 0 2,
 g1 10 8 true 9,
 gF 11 8 true 0 3,
 g1 12 8 true 11,
 gN 13 8 true 12,
 gB 14 8 true .lss (.t 10) (.t 13),
 pA 15 8 14,
 mT 16 15,
 gF 17 16 true 0 3,
 g1 18 16 true 17,
 gF 19 16 true 0 2,
 g1 20 16 true 19,
 og 21 16 true (.ia 4 (.t 18) (.t 20)),
 gF 22 16 true 0 21,
 g1 23 16 true 22,
 gB 24 16 true .eql (.t 23) (cI 3),
 pA 25 16 24,
 mT 26 25,
 gF 27 26 true 0 3,
 g1 28 26 true 27,
 gF 29 26 true 0 2,
 g1 30 26 true 29,
 og 31 26 true (.ia 4 (.t 28) (.t 30)),
 gF 32 26 true 2 31,
 g1 33 26 true 32,
 og 34 26 true (.ia 2 (.t 33) (cI 0)),
 gT 35 26 true 2 34,
 gF 36 26 true 1 2,
 gT 37 26 true 2 36,
 og 38 26 true (.bin .eql (.agg [.num,.num]) (.t 35) (.t 37)),
 pA 39 26 38,
 mT 4 39]
 [])
 .ret))}
theorem bJp :L 386=some aTf:=by kernel_rfl
theorem aVp (n:Int)(v:aD)(w:aA)(hc: ∀o∈w.objs,o.form=3->0<o.vals.length):PC L 386 [.agg [.i n,.i v.kind,.i v.n],.agg w.cs] (.bool (inR n 0 ((w.objs.length:Int)-1)&&decide ((w.obj n).form=3)&&decide (aE (w.obj n).vals 0=v))):=by
 refine aG bJp rfl rfl ?_
 by_cases h0:0<=n
 ·obtain⟨m,rfl⟩:=bP2 h0
  by_cases h1:(m:Int)<w.objs.length
  ·have h1':m<w.objs.length:=by omega
   have hr:inR (m:Int) 0 ((w.objs.length:Int)-1)=true:=by simp[inR];omega
   have hcm:=hc _ (bO6 h1');rw[hr,nR h1']
   by_cases h3:w.objs[m].form=3
   ·have hl:=hcm h3;rcases hvv:w.objs[m].vals with _|⟨x,xs⟩
    ·rw[hvv]at hl;simp at hl
    have hia: ∀en:En,nO 2 en (.fz (.agg [.i x.kind,.i x.n]::List.map aD.enc xs)) (.i 0)=some {v:= .fp [.i x.kind,.i x.n] 0}:=fun en=>by
     simp[nO]
     first|exact⟨rfl,rfl⟩|rfl
    simp only[go_sem,kK,aTf,zT h0,h1',h3,hvv,hia,kF,bOz];simp[aE,<-aD.eq_iff]
   ·simp only[go_sem,kK,aTf,zT h0,h1',zF h3,kF,bOz,bPm,bQc]
  ·have hr:inR (m:Int) 0 ((w.objs.length:Int)-1)=false:=by simp[inR];omega
   rw[hr];simp only[go_sem,kK,aTf,zT h0,zF (show¬m<w.objs.length by omega),kF,bOz,bPm]
 ·have hr:inR n 0 ((w.objs.length:Int)-1)=false:=by simp[inR];omega
  rw[hr];simp only[go_sem,kK,aTf,zF h0,kF,bPm]
structure oE (l:cC):Prop where
 e1:1<=aP l
 e2:aP l<=20
 ev:l.every=(aP l:Int)
 pk:l.picks.length<=200
 mn:l.marks.length=l.picks.length/aP l+1
variable {l:cC}
theorem oE.of (h:fY p l=true):oE l:=let ⟨_,⟨a,b,c⟩,d,e,_⟩:=pN h;⟨a,b,c,d,e⟩
variable {n:Nat}
theorem oE.lt (h:oE l)(hn:n<=l.picks.length):n/aP l<l.marks.length:=by
 rw[h.mn];have:=Nat.div_le_div_right (c:=aP l) hn;omega
theorem oE.div (h:oE l)(n:Nat):((n:Int)).tdiv (aP l:Int)=((n/aP l:Nat):Int):=by
 rw[bSh (by omega)];rfl
theorem oE.few (h:oE l):Few l.picks.length:=by have:=h.pk;unfold Few;omega
theorem oE.wdiv (h:oE l)(hn:n<=l.picks.length):IntKind.i64.wrap (((n/aP l:Nat):Int))=((n/aP l:Nat):Int):=by
 have h1:=Nat.div_le_self n (aP l);have:=h.pk;generalize n/aP l=q at h1⊢;exact aW (by omega)
theorem oE.mul (h:oE l)(hn:n<=l.picks.length):IntKind.i64.wrap (((n/aP l:Nat):Int)*(aP l:Int))=((n/aP l*aP l:Nat):Int):=by
 have h1:=bSd n (aP l);have:=h.pk;rw[<-Int.natCast_mul];generalize n/aP l*aP l=q at h1⊢;exact aW (by omega)
theorem oE.ne (h:oE l):((aP l:Int)=0)=False:=eq_false (by have:=h.e1;omega)
theorem nF {k:Nat}(h:k<l.marks.length):zA l k=l.marks[k]:=by simp[zA,h]
theorem aVq (hl:oE l)(hn:n<=l.picks.length)(hm:n%aP l=0):PC L 63 [.fp [.i l.every,.is l.picks,.fz (l.marks.map aA.enc),.fz (p.nodes.map aJ.enc),.fz (p.funs.map (.int .i64)),.i p.main,.fz (p.cons.map cO.enc)] 0,.i (n:Int)] (.agg (zA l (n/aP l)).cs):=by
 have hlt:=hl.lt hn;have hia:=fun en=>sV (l:=l) (en:=en) hlt
 have hnn:n/aP l*aP l=n:=Nat.div_mul_cancel (Nat.dvd_of_mod_eq_zero hm);have hmul:=hl.mul hn;rw[hnn]at hmul;have ht:=aC1 p l n n;rw[nF hlt];simp only[ply,hl.ev]at ht⊢;have hL:=at_ func63
 conv at hL=>rhs;reduce
 refine aG hL rfl rfl ?_
 simp only[go_sem,kK,hl.ne,hl.div,hl.wdiv hn,hmul,kF]
 refine aI ?_
 simp only[go_sem,hl.ne,hl.div,hl.wdiv hn,hia,kA,kF];simp only[go_sem,ht.ret]
 refine uC (by simp only[go_sem];rfl) ?_
 rintro fr0 k hf hk
 rw[aUq]at hk;subst hk
 refine bD bAv rfl rfl ?_
 simp only[go_sem,kK,aR0,zT (bOy n),kF]
 done
def aLo (w x:aA)(e:lV):Val:= .agg [.fz (w.objs.map aR.enc),.is w.tasks,.fz (w.outs.map bR.enc),.is w.ins,.i w.used,.fz (x.objs.map aR.enc),.is x.tasks,.fz (x.outs.map bR.enc),.is x.ins,.i x.used,.i e.task,.i e.act,.i e.n,.i e.v.kind,.i e.v.n]
def zP (p:aF)(l:cC)(t:Nat):Val:=aLo (atX p l t).1 (aZ p l t).1 (aZ p l t).2.1
def T3 :List Nat:=[5,7,8]
def aVr (c0:Nat->Nat)(en en':En):Prop:= ∀n t g,(n≠0 \/t∉T3 \/g<c0 t)->en' ⟨n,t,g⟩=en ⟨n,t,g⟩
variable {c0:Nat->Nat}
theorem aVr.trans {x y z:En}(h:aVr c0 x y)(h':aVr c0 y z):aVr c0 x z:=fun n t g k=>(h' n t g k).trans (h n t g k)
def bCd (c0:Nat->Nat)(I:En->(Nat->Nat->Nat)->Prop):Prop:= ∀en cnt en' cnt',I en cnt->aVr c0 en en'->(∀n t,n≠0 \/t∉T3->cnt' n t=cnt n t)->(∀t∈T3,cnt 0 t<=cnt' 0 t)->I en' cnt'
theorem vY (ht:t∈T3)(hg:c0 t<=g):aVr c0 en (en.set ⟨0,t,g⟩ e):=by
 intro n u g' h
 refine pZ fun he=>?_
 injection he with h1 h2 h3
 rcases h with h|h|h
 ·exact h h1
 ·exact h (h2▸ht)
 ·subst h2;omega
theorem qO (h:(aZ p l t).2.2=0):(atX p l t).2=0/\ (dR p (atX p l t).1 (iL l t)).2.2=0/\ aZ p l t=dR p (atX p l t).1 (iL l t):=by
 unfold aZ at h⊢
 by_cases h1:(atX p l t).2=0
 ·rw[if_pos h1]at h⊢
  by_cases h2:(dR p (atX p l t).1 (iL l t)).2.2=0
  ·rw[if_pos h2];exact⟨h1,h2,rfl⟩
  ·rw[if_neg h2]at h;exact absurd h h2
 ·rw[if_neg h1]at h;exact absurd h h1
theorem aN3 (h1:(atX p l t).2=0)(h: ¬(aZ p l t).2.2=0): ¬(dR p (atX p l t).1 (iL l t)).2.2=0/\ (aZ p l t).2.2=(dR p (atX p l t).1 (iL l t)).2.2:=by
 unfold aZ at h⊢;rw[if_pos h1]at h⊢
 by_cases h2:(dR p (atX p l t).1 (iL l t)).2.2=0
 ·rw[if_pos h2]at h;exact absurd h2 h
 ·rw[if_neg h2];exact⟨h2,rfl⟩
theorem aTg (h1: ¬(atX p l t).2=0):(aZ p l t).2.2=(atX p l t).2:=by unfold aZ;rw[if_neg h1]
theorem aIu (hl:oE l)(h:(aZ p l t).2.2=0):(atX p l (t+1)).2=0/\ ((t+1)%aP l=0 \/(atX p l (t+1)).1=(aZ p l t).1):=by
 obtain⟨h1,h2,h3⟩:=qO h
 by_cases hm:(t+1)%aP l=0
 ·rw[oL hl.e1 hm];exact⟨rfl,.inl hm⟩
 ·rw[aFq hl.e1 hm,if_pos h1,if_pos h2,h3];exact⟨rfl,.inr rfl⟩
theorem oM (h:t<l.picks.length):iL l t=l.picks[t]:=by simp[iL,h]
theorem oN (h:fY p l=true)(hn:n<=l.picks.length)(he:(atX p l n).2=0):gG p (atX p l n).1=true:=by
 have h1:=(pN h).1;have:=aVk (pL h1) h hn he;simp[gG,h1,this]
theorem sA (hsp:aS p=true)(h:gG p w=true):w.few:=by
 simp only[gG,bOx]at h;exact aB7 (rV hsp h.2)
variable {u:Nat}
theorem bNh {a b:Nat}(h:n≠0 \/u∉T3):aC (aC cnt 0 7 a) 0 8 b n u=cnt n u:=by
 simp only[aC];rw[if_neg,if_neg]
 ·rintro⟨rfl,rfl⟩;rcases h with h|h
  ·exact h rfl
  ·exact h (by decide)
 ·rintro⟨rfl,rfl⟩;rcases h with h|h
  ·exact h rfl
  ·exact h (by decide)
theorem aIv :cnt 0 u<=aC (aC cnt 0 7 (cnt 0 7+1)) 0 8 (cnt 0 8+1) 0 u:=by
 simp only[aC];split
 ·rename_i h;obtain⟨_,rfl⟩:=h;omega
 split
 ·rename_i h;obtain⟨_,rfl⟩:=h;omega
 ·exact bOy _
theorem bCe (hpf:p.few)(hsp:aS p=true)(hok:fY p l=true){a b s:Nat}(has:a<=s)(hsb:s<=b)(hb:b<=l.picks.length)
  (hat:(atX p l a).2=0->PC L 63 [(ply p l),.i (a:Int)] (.agg (atX p l a).1.cs)) (hax: ¬(atX p l a).2=0->PX L 63 [(ply p l),.i (a:Int)] (rF (atX p l a).2))
  {k:Key} {c0:Nat->Nat} {I:Nat->En->(Nat->Nat->Nat)->Prop} {R:Ex->St->Prop} (hst: ∀t,bCd c0 (I t))
  (hr: ∀t,a<=t->t<s->(aZ p l t).2.2=0/\ ∀en cnt,I t en cnt->(∀u∈T3,c0 u<=cnt 0 u)->WIn L (.yld k) [.i (t:Int),zP p l t] en cnt fun v en' cnt'=>v= .bool true/\ I (t+1) en' cnt'/\ (∀u g,u∈T3->g<cnt 0 u->c0 u<=g->en' ⟨0,u,g⟩=en ⟨0,u,g⟩)/\ ∀u∈T3,cnt 0 u<=cnt' 0 u)
  (hfin: ∀en cnt,I s en cnt->(∀u∈T3,c0 u<=cnt 0 u)->(s=b/\ ∀e fr,e= .normal \/e= .ret->R e ⟨fr,en,cnt⟩) \/
   (s<b/\ (aZ p l s).2.2=0/\ WIn L (.yld k) [.i (s:Int),zP p l s] en cnt fun v en' cnt'=>v= .bool false/\ ∀fr,R .ret ⟨fr,en',cnt'⟩) \/
   (s<b/\ ¬(aZ p l s).2.2=0/\ ∀fr,R (.panic (rF (aZ p l s).2.2)) ⟨fr,en,cnt⟩))
  {en:En} {cnt:Nat->Nat->Nat} (h0:I a en cnt) (hc0: ∀u∈T3,c0 u<=cnt 0 u):
  Wp L aR0.body ⟨fun i=>[.yld k,.fp [.i (a:Int)] 0,.fp [.i (b:Int)] 0,.fp [(ply p l)] 0].getD i (.tup []),en,cnt⟩ R:=by
 have hl:=oE.of hok;simp only[go_sem,kK,aR0]
 by_cases hab:b<=a
 ·have:s=b:=by omega
  subst this;have:a=s:=by omega
  subst this;rcases hfin _ _ h0 hc0 with⟨_,h⟩|⟨h,_⟩|⟨h,_⟩
  ·simp only[go_sem,zT hab];exact h _ _ (.inr rfl)
  ·omega
  ·omega
 simp only[go_sem,zF hab]
 by_cases ha0:(atX p l a).2=0
 case neg=>
  have hs:s=a:=by
   rcases bP4 a s with h|h
   ·exact absurd (qO (hr a (bOy _) h).1).1 ha0
   ·omega
  subst hs;rcases hfin _ _ h0 hc0 with⟨h,_⟩|⟨_,h,_⟩|⟨_,_,h⟩
  ·omega
  ·exact absurd (qO h).1 ha0
  ·rw[aTg ha0]at h
   refine cK 2 rfl ?_
   simp only[go_sem,bO5,bO3,(hax ha0).ret];exact h _
 refine bL ?_
 simp only[go_sem,(hat ha0).ret,kF];obtain⟨g5,hg5⟩: ∃g,g=cnt 0 5:=⟨_,rfl⟩
 rw[<-hg5];have hc5:c0 5<=g5:=by rw[hg5];exact hc0 5 (by decide)
 refine bQ s (fun t st=> ∃fr en cnt w,st=⟨fr,en,cnt⟩/\ fr 0= .yld k/\ fr 1= .fp [.i (a:Int)] 0/\ fr 2= .fp [.i (b:Int)] 0/\ fr 3= .fp [(ply p l)] 0/\ fr 5= .ptr ⟨0,5,g5⟩ 0/\ fr 6= .i (t:Int)/\ en ⟨0,5,g5⟩=some (.box w.cs false)/\ (t%aP l=0 \/w=(atX p l t).1)/\ (atX p l t).2=0/\ I t en cnt/\ g5<cnt 0 5/\ a<=t/\ ∀u∈T3,c0 u<=cnt 0 u) a has ?_ ?_
 ·refine⟨_,_,_,(atX p l a).1,rfl,by simp only[go_sem],by simp only[go_sem],by simp only[go_sem],by simp only[go_sem],by simp only[go_sem],by simp only[go_sem],by simp only[go_sem],.inr rfl,ha0,?_,?_,bOy _,?_⟩
  ·refine hst a _ _ _ _ h0 ((vY (by decide) (by omega)).trans (vY (by decide) (by omega))) (fun n t h=>?_) (fun u hu=>?_)
   ·simp only[aC];split
    ·rename_i h';obtain⟨rfl,rfl⟩:=h';rcases h with h|h
     ·exact absurd rfl h
     ·exact absurd (by decide) h
    ·rfl
   ·simp only[aC];split
    ·rename_i h';obtain⟨_,rfl⟩:=h';omega
    ·exact bOy _
  ·simp only[aC];simp
  ·intro u hu;have:=hc0 u hu;simp only[aC];split
   ·rename_i h';obtain⟨_,rfl⟩:=h';omega
   ·exact this
 rintro t st hts ⟨fr,en,cnt,w,rfl,f0,f1,f2,f3,f5,f6,e5,hw,h0t,hI,hg,hta,hc⟩
 simp only[go_sem,kK,f6,f2]
 by_cases htb:t<b
 case neg=>
  have:s=b:=by omega
  subst this;have:t=s:=by omega
  subst this;simp only[go_sem,zF htb];rcases hfin _ _ hI hc with⟨_,h⟩|⟨h,_⟩|⟨h,_⟩
  ·exact h _ _ (.inl rfl)
  ·omega
  ·omega
 have htp:t<l.picks.length:=by omega
 have hmk:=aNy (p:=p) (l:=l) t hl.e1 (by have:=hl.pk;omega) hl.ev
 have hgv:=oN hok (bQm htp) h0t;obtain⟨y,hy⟩: ∃y,y=(atX p l t).1:=⟨_,rfl⟩
 rw[<-hy]at hw hgv
 by_cases hm:t%aP l=0
 case' pos=>
  have hlt:=hl.lt (bQm htp);have hia:=fun en=>sV (l:=l) (en:=en) hlt
  have hwm:l.marks[t/aP l]=y:=by rw[hy,oL hl.e1 hm,nF hlt]
  simp only[go_sem,kK,zT htb,f3,f6,hmk.ret,zT hm];simp only[go_sem,f5,hl.ev,hl.ne,hl.div,hl.wdiv (bQm htp),hia,hwm,e5,kF];have e6:(en.set ⟨0,5,g5⟩ (some (.box y.cs false))) ⟨0,5,g5⟩=some (.box y.cs false):=by simp only[go_sem]
  have hI2:=hst t _ cnt _ cnt hI (vY (e:=some (.box y.cs false)) (t:=5) (g:=g5) (by decide) (by omega)) (fun _ _ _=>rfl) (fun _ _=>bOy _)
  generalize En.set en _ _=en1 at e6 hI2⊢
 case' neg=>
  simp only[go_sem,kK,zT htb,f3,f6,hmk.ret,zF hm];have e6:=e5;rw[hw.resolve_left hm]at e6;have hI2:=hI;generalize en=en1 at e6 hI2⊢
 all_goals
  clear e5 hI hw
  by_cases hk:(aZ p l t).2.2=0
  case neg=>
   obtain⟨hb1,hb2⟩:=aN3 h0t hk;rw[<-hy]at hb1 hb2;have hT:=uZ p l y (iL l t) hpf (sA hsp hgv) hsp hgv hb1;rw[<-hb2,oM htp]at hT;have:t=s:=by
    rcases bP4 t s with h|h
    ·exact absurd (hr t hta h).1 hk
    ·omega
   subst this
   refine jW 10 rfl rfl ?_
   simp only[go_sem,bO5,bO3,bP9,bP8,qP,f3,f5,f6,e6,htp,hT.ret,kA,kF]
   refine⟨rfl,?_⟩
   rcases hfin _ _ hI2 hc with⟨h,_⟩|⟨_,h,_⟩|⟨_,_,h⟩
   ·omega
   ·exact absurd h hk
   ·exact h _
  obtain⟨_,ht0,hta'⟩:=qO hk;rw[<-hy]at ht0 hta';have hT:=uY p l y (iL l t) hpf (sA hsp hgv) hsp hgv ht0;rw[<-hta',oM htp]at hT;obtain⟨x,hx⟩: ∃x,x=(aZ p l t).1:=⟨_,rfl⟩
  obtain⟨e,he⟩: ∃e,e=(aZ p l t).2.1:=⟨_,rfl⟩
  rw[<-hx,<-he]at hT
  refine iU ?_
  simp only[go_sem,f0,f3,f5,f6,e6,htp,hT.ret,evV,kA,kF];have hc7:=hc 7 (by decide)
  have hc8:=hc 8 (by decide)
  generalize hE:En.set (En.set (En.set (En.set en1 _ _) _ _) _ _) _ _=E;have ho:aVr c0 en1 E:=by rw[<-hE];exact(((vY (by decide) hc7).trans (vY (by decide) hc8)).trans (vY (by decide) hc7)).trans (vY (by decide) hc8)
  have E5:E ⟨0,5,g5⟩=some (.box y.cs false):=by rw[<-hE];simp only[go_sem,e6]
  have E7:E ⟨0,7,cnt 0 7⟩=some (.box [.fz (x.objs.map aR.enc),.is x.tasks,.fz (x.outs.map bR.enc),.is x.ins,.i x.used] false):=by rw[<-hE];simp only[go_sem]
  have hI3:=hst t _ _ E (aC (aC cnt 0 7 (cnt 0 7+1)) 0 8 (cnt 0 8+1)) hI2 ho (fun n u h=>bNh h) (fun u _=>aIv)
  have hc3: ∀u∈T3,c0 u<=aC (aC cnt 0 7 (cnt 0 7+1)) 0 8 (cnt 0 8+1) 0 u:=fun u hu=>bPb (hc u hu) aIv
  have hd:zP p l t=aLo y x e:=by rw[zP,hy,hx,he]
  rcases bP4 t s with hlt|hge
  ·have hrt:=(hr t hta hlt).2 _ _ hI3 hc3;rw[hd]at hrt
   refine WIn.mono hrt ?_
   rintro v en' cnt' ⟨rfl,hI4,hin,hcc⟩
   have q5:=(hin 5 g5 (by decide) (bPo hg aIv) hc5).trans E5
   have q7:=(hin 7 (cnt 0 7) (by decide) (by simp[aC]) hc7).trans E7
   obtain⟨hn0,hn1⟩:=aIu hl hk;have hx1:(t+1)%aP l=0 \/x=(atX p l (t+1)).1:=hn1.imp_right fun h=>by rw[hx,h]
   simp only[go_sem,kK,f5,f6,q5,q7,bPd]
   refine⟨hlt,_,_,_,x,rfl,?_⟩
   simp only[go_sem,f0,f1,f2,f3,f5,aT htp hl.few,hl.ev];exact⟨hx1,hn0,hst _ _ _ _ _ hI4 (vY (by decide) hc5) (fun _ _ _=>rfl) (fun _ _=>bOy _),bPo hg (bPb aIv (hcc 5 (by decide))),by omega,fun u hu=>bPb (hc3 u hu) (hcc u hu)⟩
  ·have:t=s:=by omega
   subst this;rcases hfin _ _ hI3 hc3 with⟨h,_⟩|⟨_,_,hrt⟩|⟨_,h,_⟩
   ·omega
   ·rw[hd]at hrt
    refine WIn.mono hrt ?_
    rintro v en' cnt' ⟨rfl,hR⟩
    simp only[go_sem,kK,bPh];exact hR _
   ·exact absurd hk h
theorem aTh {e m:Nat}(he:1<=e)(h: ¬(m+1)%e=0):(m+1)/e=m/e:=by
 rw[Nat.succ_div,if_neg (fun h'=>h (Nat.mod_eq_zero_of_dvd h')),bQh]
theorem aGx {e:Nat}(h:n%e=0):n/e*e=n:=Nat.div_mul_cancel (Nat.dvd_of_mod_eq_zero h)
theorem aP7 {p:aF}{l:cC}(hl:oE l): ∀n,(atX p l n).2=0-> ∀t,n/aP l*aP l<=t->t<n->(aZ p l t).2.2=0
 |0,_,t,_,h=>by omega
 |m+1,h0,t,h1,h2=>by
  by_cases hm:(m+1)%aP l=0
  ·rw[aGx hm]at h1;omega
  ·rw[aFq hl.e1 hm]at h0
   by_cases ha:(atX p l m).2=0
   ·rw[if_pos ha]at h0
    by_cases ht:(dR p (atX p l m).1 (iL l m)).2.2=0
    ·rcases bP4 t m with h|h
     ·exact aP7 hl m ha t (by rw[<-aTh hl.e1 hm];exact h1) h
     ·obtain rfl:t=m:=by omega
      unfold aZ;rw[if_pos ha,if_pos ht];exact ht
    ·rw[if_neg ht]at h0;exact absurd h0 ht
   ·rw[if_neg ha]at h0;exact absurd h0 ha
theorem aP8 {p:aF}{l:cC}(hl:oE l): ∀n,¬(atX p l n).2=0-> ∃s,n/aP l*aP l<=s/\ s<n/\ (∀t,n/aP l*aP l<=t->t<s->(aZ p l t).2.2=0)/\ ¬(aZ p l s).2.2=0/\ (aZ p l s).2.2=(atX p l n).2
 |0,h=>by rw[oL hl.e1 (Nat.zero_mod _)]at h;exact absurd rfl h
 |m+1,h0=>by
  by_cases hm:(m+1)%aP l=0
  ·rw[oL hl.e1 hm]at h0;exact absurd rfl h0
  ·have hd:=aTh hl.e1 hm;have hle:=bSd m (aP l);rw[hd];have hs:=aFq (p:=p) hl.e1 hm;rw[hs]at h0⊢
   by_cases ha:(atX p l m).2=0
   ·rw[if_pos ha]at h0⊢
    by_cases ht:(dR p (atX p l m).1 (iL l m)).2.2=0
    ·rw[if_pos ht]at h0;exact absurd rfl h0
    ·rw[if_neg ht]at h0⊢;have hk:(aZ p l m).2.2=(dR p (atX p l m).1 (iL l m)).2.2:=by unfold aZ;rw[if_pos ha,if_neg ht]
     exact⟨m,hle,by omega,aP7 hl m ha,by rw[hk];exact ht,hk⟩
   ·rw[if_neg ha]at h0⊢;obtain⟨s,h1,h2,h3,h4,h5⟩:=aP8 hl m ha;exact⟨s,h1,by omega,h3,h4,h5⟩
def AtI (p:aF)(l:cC)(fr0:Nat->Val)(t:Nat)(en:En)(_:Nat->Nat->Nat):Prop:=
 (∃fr1,en ⟨1,0,0⟩=some (.loop fr1 [40,41] (bB.ops [o 8 (.alloc [.cl [],.cl [],.cl [],.cl [],.i 0,.cl [],.cl [],.cl [],.cl [],.i 0,.i 0,.i 0,.i 0,.i 0,.i 0]),sT 15 8 41]) (bB.block 1 (.ops [fA 42 5 8,lT 43 5 42,sT 5 6 43])) .ready)/\ fr1 6=fr0 6)/\ en ⟨0,4,0⟩=some (.box [.cl [],.cl [],.cl [],.cl [],.i 0] false)/\ ∃w,en ⟨0,6,0⟩=some (.box [.fz (w.objs.map aR.enc),.is w.tasks,.fz (w.outs.map bR.enc),.is w.ins,.i w.used] false)/\ w=(atX p l t).1
variable {fr0:Nat->Val}
theorem bCf (t:Nat):bCd (fun _=>0) (AtI p l fr0 t):=by
 rintro en cnt en' cnt' ⟨⟨fr1,h1,hf⟩,h2,w,h3,h4⟩ ho _ _
 exact⟨⟨fr1,(ho 1 0 0 (.inl (by decide))).trans h1,hf⟩,(ho 0 4 0 (.inr (.inl (by decide)))).trans h2,w,(ho 0 6 0 (.inr (.inl (by decide)))).trans h3,h4⟩
theorem bCg (hf:fr0 6= .ptr ⟨0,6,0⟩ 0)(hn:(atX p l (t+1)).1=(aZ p l t).1)(hI:AtI p l fr0 t en cnt):
  WIn L (.yld ⟨1,0,0⟩) [.i (t:Int),zP p l t] en cnt fun v en' cnt'=>v= .bool true/\ AtI p l fr0 (t+1) en' cnt'/\ (∀u g,u∈T3->g<cnt 0 u->0<=g->en' ⟨0,u,g⟩=en ⟨0,u,g⟩)/\ ∀u∈T3,cnt 0 u<=cnt' 0 u:=by
 obtain⟨⟨fr1,h1,hf1⟩,h2,w,h3,h4⟩:=hI;rw[hf]at hf1
 refine aIm (fr:=fr1) (ps:=[40,41]) (a:=(bB.ops [o 8 (.alloc [.cl [],.cl [],.cl [],.cl [],.i 0,.cl [],.cl [],.cl [],.cl [],.i 0,.i 0,.i 0,.i 0,.i 0,.i 0]),sT 15 8 41])) (b:=(bB.block 1 (.ops [fA 42 5 8,lT 43 5 42,sT 5 6 43]))) h1 rfl ?_
 simp only[go_sem,zP,aLo,hf1,h1,h3]
 refine⟨⟨⟨_,by simp only[go_sem];rfl,?_⟩,by simp only[go_sem,h2],_,by simp only[go_sem],hn.symm⟩,fun u g hu hg _=>?_,fun u hu=>?_⟩
 ·simp only[go_sem,hf,hf1]
 ·simp only[T3,bP0,List.not_mem_nil,or_false]at hu;rcases hu with rfl|rfl|rfl
  ·simp only[go_sem]
  ·simp only[go_sem]
  ·simp only[go_sem,show¬g=cnt 0 8 by omega]
 ·simp only[aC];split
  ·rename_i h;obtain⟨_,rfl⟩:=h;omega
  ·exact bOy _
theorem aP9 (hpf:p.few)(hsp:aS p=true)(hok:fY p l=true)(hn:n<=l.picks.length):
  ((atX p l n).2=0->PC L 63 [.fp [.i l.every,.is l.picks,.fz (l.marks.map aA.enc),.fz (p.nodes.map aJ.enc),.fz (p.funs.map (.int .i64)),.i p.main,.fz (p.cons.map cO.enc)] 0,.i (n:Int)] (.agg (atX p l n).1.cs))/\ (¬(atX p l n).2=0->PX L 63 [.fp [.i l.every,.is l.picks,.fz (l.marks.map aA.enc),.fz (p.nodes.map aJ.enc),.fz (p.funs.map (.int .i64)),.i p.main,.fz (p.cons.map cO.enc)] 0,.i (n:Int)] (rF (atX p l n).2)):=by
 have hl:=oE.of hok;obtain⟨a,ha⟩: ∃a,a=n/aP l*aP l:=⟨_,rfl⟩
 have han:a<=n:=by rw[ha];exact bSd ..
 have hma:a%aP l=0:=by rw[ha];exact Nat.mul_mod_left ..
 have hlt:=hl.lt hn;have hia:=fun en=>sV (l:=l) (en:=en) hlt
 have hmul:=hl.mul hn;rw[<-ha]at hmul;have ht:=aC1 p l a n;have hda:a/aP l=n/aP l:=by rw[ha];exact Nat.mul_div_cancel _ (by have:=hl.e1;omega)
 have hma0:=oL (p:=p) hl.e1 hma;have hat:=aVq (p:=p) hl (bPb han hn) hma;rw[hda]at hma0 hat;rw[nF hlt]at hma0 hat;have hmw:l.marks[n/aP l]=(atX p l a).1:=by rw[hma0]
 have hnx: ∀t,a<=t->t<n->(aZ p l t).2.2=0->(atX p l (t+1)).1=(aZ p l t).1:=fun t h1 h2 h0=>by
  rcases(aIu hl h0).2 with h|h
  ·exfalso
   have h3:(t+1)/aP l*aP l=t+1:=aGx h;have h4:(t+1)/aP l<=n/aP l:=Nat.div_le_div_right h2;have h5:=bP5 (aP l) h4;rw[h3,<-ha]at h5;omega
  ·exact h
 rw[hmw]at hat hia;have hT:=fun fr0 (hf:fr0 6= .ptr ⟨0,6,0⟩ 0) R s (h1:a<=s) (h2:s<=n) (h3: ∀t,a<=t->t<s->(aZ p l t).2.2=0)=>bCe (R:=R) (k:=⟨1,0,0⟩) (c0:=fun _=>0) (I:=AtI p l fr0) hpf hsp hok h1 h2 hn (fun _=>hat) (fun h=>absurd (by rw[hma0]) h) bCf
  (fun t q1 q2=>⟨h3 t q1 q2,fun en cnt hI _=>bCg hf (hnx t q1 (bPo q2 h2) (h3 t q1 q2)) hI⟩)
 simp only[ply,hl.ev]at ht hat hT⊢
 refine⟨fun h0=>?_,fun h0=>?_⟩
 ·have hL:=at_ func63
  conv at hL=>rhs;reduce
  refine aG hL rfl rfl ?_
  simp only[go_sem,kK,hl.ne,hl.div,hl.wdiv hn,hmul,kF]
  refine aI ?_
  simp only[go_sem,hl.ne,hl.div,hl.wdiv hn,hia,kA,kF];simp only[go_sem,ht.ret]
  refine uC (by simp only[go_sem];rfl) ?_
  rintro fr0 k hf hk
  obtain rfl:k=⟨1,0,0⟩:=hk
  refine bD bAv rfl rfl ?_
  refine hT fr0 (by rw[hf];simp only[go_sem]) _ n han (bOy n) (fun t h1 h2=>aP7 hl n h0 t (by rw[<-ha];exact h1) h2) (fun en cnt hI _=> .inl ⟨rfl,fun e fr he=>?_⟩) ?_ (fun _ _=>bO8 _)
  ·obtain⟨⟨fr1,i1,_⟩,i4,w,i6,rfl⟩:=hI
   refine⟨by rcases he with rfl|rfl<;>rfl,?_⟩
   simp only[go_sem,aR0,i1,i4,i6]
  ·refine⟨⟨_,by simp only[go_sem],rfl⟩,by simp only[go_sem],_,by simp only[go_sem],rfl⟩
 ·obtain⟨s,h1,h2,h3,h4,h5⟩:=aP8 hl n h0;rw[<-ha]at h1 h3;have hL:=at_ func63
  conv at hL=>rhs;reduce
  refine aAi hL rfl rfl ?_
  simp only[go_sem,kK,hl.ne,hl.div,hl.wdiv hn,hmul,kF]
  refine aI ?_
  simp only[go_sem,hl.ne,hl.div,hl.wdiv hn,hia,kA,kF];simp only[go_sem,ht.ret]
  refine aGf (by simp only[go_sem];rfl) ?_
  rintro fr0 k hf hk
  obtain rfl:k=⟨1,0,0⟩:=hk
  refine cA bAv rfl rfl ?_
  refine hT fr0 (by rw[hf];simp only[go_sem]) _ s h1 (bQm h2) h3 (fun en cnt hI _=> .inr (.inr ⟨h2,h4,fun fr=>?_⟩)) ?_ (fun _ _=>bO8 _)
  ·rw[h5]
   done
  ·refine⟨⟨_,by simp only[go_sem],rfl⟩,by simp only[go_sem],_,by simp only[go_sem],rfl⟩
theorem aBj (p:aF)(l:cC)(a:Int):PC L 91 [(ply p l),.i a] (.fn 133 [] [.fp [(ply p l)] 0,.fp [.i a] 0]):=by
 have hL:=at_ func91
 conv at hL=>rhs;reduce
 refine aG hL rfl rfl ?_
 simp only[go_sem,kK,kF]
def aVs (c4:Nat)(I:En->(Nat->Nat->Nat)->Prop):Prop:= ∀en cnt en' cnt',I en cnt->(∀n t g,(n≠0 \/t≠4 \/g<c4)->en' ⟨n,t,g⟩=en ⟨n,t,g⟩)->(∀n t,n≠0 \/t≠4->cnt' n t=cnt n t)->cnt 0 4<=cnt' 0 4->I en' cnt'
theorem bEp {c4:Nat}(hg:c4<=g): ∀n t g',(n≠0 \/t≠4 \/g'<c4)->(en.set ⟨0,4,g⟩ e) ⟨n,t,g'⟩=en ⟨n,t,g'⟩:=by
 intro n u g' h
 refine pZ fun he=>?_
 injection he with h1 h2 h3
 rcases h with h|h|h
 ·exact h h1
 ·exact h h2
 ·omega
theorem bEq (hl:oE l)(hm: ¬(n+1)%aP l=0)(h:(atX p l n).2=0):
  ((dR p (atX p l n).1 (iL l n)).2.2=0->(atX p l (n+1)).2=0/\ (atX p l (n+1)).1=(dR p (atX p l n).1 (iL l n)).1)/\ (¬(dR p (atX p l n).1 (iL l n)).2.2=0->(atX p l (n+1)).2=(dR p (atX p l n).1 (iL l n)).2.2):=by
 rw[aFq hl.e1 hm,if_pos h]
 refine⟨fun h'=>?_,fun h'=>?_⟩
 ·rw[if_pos h'];exact⟨rfl,rfl⟩
 ·rw[if_neg h']
theorem oE.few1 (h:oE l):Few (l.picks.length+1):=by have:=h.pk;unfold Few;omega
theorem aN4 (hpf:p.few)(hsp:aS p=true)(hok:fY p l=true){a s:Nat}(has:a<=s)(ha:a<=l.picks.length)(hsb:s<=l.picks.length+1)
  {k:Key} {c4:Nat} {I:Nat->En->(Nat->Nat->Nat)->Prop} {R:Ex->St->Prop} (hst: ∀t,aVs c4 (I t))
  (hr: ∀t,a<=t->t<s->(atX p l t).2=0/\ ∀en cnt,I t en cnt->c4<=cnt 0 4->WIn L (.yld k) [.i (t:Int),.agg (atX p l t).1.cs] en cnt fun v en' cnt'=>v= .bool true/\ I (t+1) en' cnt'/\ (∀g,g<cnt 0 4->c4<=g->en' ⟨0,4,g⟩=en ⟨0,4,g⟩)/\ cnt 0 4<=cnt' 0 4)
  (hfin: ∀en cnt,I s en cnt->c4<=cnt 0 4->(s=l.picks.length+1/\ ∀fr,R .normal ⟨fr,en,cnt⟩) \/
   (s<=l.picks.length/\ (atX p l s).2=0/\ WIn L (.yld k) [.i (s:Int),.agg (atX p l s).1.cs] en cnt fun v en' cnt'=>v= .bool false/\ ∀fr,R .ret ⟨fr,en',cnt'⟩) \/
   (s<=l.picks.length/\ ¬(atX p l s).2=0/\ ∀fr,R (.panic (rF (atX p l s).2)) ⟨fr,en,cnt⟩))
  {en:En} {cnt:Nat->Nat->Nat} (h0:I a en cnt) (hc0:c4<=cnt 0 4):
  Wp L aJ6.body ⟨fun i=>[.yld k,.fp [(ply p l)] 0,.fp [.i (a:Int)] 0].getD i (.tup []),en,cnt⟩ R:=by
 have hl:=oE.of hok;obtain⟨hat,hax⟩:=aP9 hpf hsp hok ha;simp only[go_sem,kK,aJ6]
 by_cases ha0:(atX p l a).2=0
 case neg=>
  have hs:s=a:=by
   rcases bP4 a s with h|h
   ·exact absurd (hr a (bOy _) h).1 ha0
   ·omega
  subst hs;rcases hfin _ _ h0 hc0 with⟨h,_⟩|⟨_,h,_⟩|⟨_,_,h⟩
  ·omega
  ·exact absurd h ha0
  ·refine cK 2 rfl ?_
   simp only[go_sem,bO5,bO3,(hax ha0).ret];exact h _
 refine bL ?_
 simp only[go_sem,(hat ha0).ret,kF];obtain⟨g4,hg4⟩: ∃g,g=cnt 0 4:=⟨_,rfl⟩
 rw[<-hg4];have hc5:c4<=g4:=by rw[hg4];exact hc0
 refine bQ s (fun t st=> ∃fr en cnt w,st=⟨fr,en,cnt⟩/\ fr 0= .yld k/\ fr 1= .fp [(ply p l)] 0/\ fr 2= .fp [.i (a:Int)] 0/\ fr 4= .ptr ⟨0,4,g4⟩ 0/\ fr 5= .i (t:Int)/\ en ⟨0,4,g4⟩=some (.box w.cs false)/\ ((t=a/\ w=(atX p l a).1) \/(a<t/\ w=(atX p l (t-1)).1/\ (atX p l (t-1)).2=0))/\ I t en cnt/\ g4<cnt 0 4/\ a<=t) a has ?_ ?_
 ·refine⟨_,_,_,(atX p l a).1,rfl,by simp only[go_sem],by simp only[go_sem],by simp only[go_sem],by simp only[go_sem],by simp only[go_sem],by simp only[go_sem],.inl ⟨rfl,rfl⟩,?_,?_,bOy _⟩
  ·refine hst a _ _ _ _ h0 (fun n t g h=>by rw[bEp hc5 n t g h,bEp hc5 n t g h]) (fun n t h=>?_) ?_
   ·simp only[aC];split
    ·rename_i h';obtain⟨rfl,rfl⟩:=h';simp at h
    ·rfl
   ·simp only[aC];simp;omega
  ·simp only[aC];simp
 rintro t st hts ⟨fr,en,cnt,w,rfl,f0,f1,f2,f4,f5,e4,hw,hI,hg,hta⟩
 simp only[go_sem,kK,f5,f1]
 by_cases htb:t<=l.picks.length
 case neg=>
  have:s=l.picks.length+1:=by omega
  have:t=s:=by omega
  subst this;simp only[go_sem,zF htb];rcases hfin _ _ hI (by omega)with⟨_,h⟩|⟨h,_⟩|⟨h,_⟩
  ·exact h _
  ·omega
  ·omega
 have hmk:=aNy (p:=p) (l:=l) t hl.e1 (by have:=hl.pk;omega) hl.ev
 simp only[go_sem,kK,zT htb,f1,f5,hmk.ret];obtain⟨y,hy⟩: ∃y,y=(atX p l t).1:=⟨_,rfl⟩
 by_cases hm:t%aP l=0
 case' pos=>
  have hlt:=hl.lt htb;have hia:=fun en=>sV (l:=l) (en:=en) hlt
  have hwm:l.marks[t/aP l]=y:=by rw[hy,oL hl.e1 hm,nF hlt]
  have hat1:(atX p l t).2=0:=by rw[oL hl.e1 hm]
  simp only[go_sem,zT hm,f1,f4,f5,hl.ev,hl.ne,hl.div,hl.wdiv htb,hia,hwm,e4,kF];have e6:(en.set ⟨0,4,g4⟩ (some (.box y.cs false))) ⟨0,4,g4⟩=some (.box y.cs false):=by simp only[go_sem]
  have hI2:=hst t _ cnt _ cnt hI (bEp (e:=some (.box y.cs false)) (g:=g4) hc5) (fun _ _ _=>rfl) (bOy _)
  generalize En.set en _ _=en1 at e6 hI2⊢
 case' neg=>
  simp only[go_sem,kK,zF hm,f2,f5];rcases hw with⟨hta1,hw1⟩|⟨hgt,hw1,hw2⟩
 case' neg.inl=>
  subst hta1;rw[hw1,<-hy]at e4;simp only[go_sem,zF (Nat.lt_irrefl t)];have hat1:=ha0;have e6:=e4;have hI2:=hI;generalize en=en1 at e6 hI2⊢
 case' neg.inr=>
  obtain⟨m,rfl⟩: ∃m,t=m+1:=⟨t-1,by omega⟩
  have hmp:m<l.picks.length:=by omega
  have hwr:IntKind.i64.wrap (((m+1:Nat):Int)-1)=(m:Int):=by
   have:=hl.pk;rw[show((m+1:Nat):Int)-1=(m:Int)by omega]
   exact aW (by omega)
  rw[Nat.add_sub_cancel]at hw1 hw2;subst hw1;have hgv:=oN hok (bQm hmp) hw2;obtain⟨hs1,hs2⟩:=bEq (p:=p) hl hm hw2;simp only[go_sem,zT hgt]
  by_cases ht:(dR p (atX p l m).1 (iL l m)).2.2=0
  case neg=>
   have hT:=uZ p l (atX p l m).1 (iL l m) hpf (sA hsp hgv) hsp hgv ht;rw[<-hs2 ht,oM hmp]at hT;rw[<-hs2 ht]at ht;have:m+1=s:=by
    rcases bP4 (m+1) s with h|h
    ·exact absurd (hr (m+1) hta h).1 ht
    ·omega
   subst this
   refine jW 11 rfl rfl ?_
   simp only[go_sem,bO5,bO3,bP9,bP8,qP,f1,f4,f5,e4,hwr,hmp,hT.ret]
   refine⟨rfl,?_⟩
   rcases hfin _ _ hI (by omega)with⟨h,_⟩|⟨_,h,_⟩|⟨_,_,h⟩
   ·omega
   ·exact absurd h ht
   ·exact h _
  obtain⟨hat1,hs3⟩:=hs1 ht;have hT:=uY p l (atX p l m).1 (iL l m) hpf (sA hsp hgv) hsp hgv ht;rw[<-hs3,<-hy,oM hmp]at hT
  refine bAq ?_
  simp only[go_sem,f1,f4,f5,e4,hwr,hmp,hT.ret,evV,kF];have e6:(en.set ⟨0,4,g4⟩ (some (.box y.cs false))) ⟨0,4,g4⟩=some (.box y.cs false):=by simp only[go_sem]
  have hI2:=hst (m+1) _ cnt _ cnt hI (bEp (e:=some (.box y.cs false)) (g:=g4) hc5) (fun _ _ _=>rfl) (bOy _)
  generalize En.set en _ _=en1 at e6 hI2⊢;generalize m+1=t at*
 all_goals
  simp only[go_sem,f0,f4,f5,e6];rcases bP4 t s with hlt|hge
  ·have hrt:=(hr t hta hlt).2 _ _ hI2 (by omega)
   rw[<-hy]at hrt
   refine WIn.mono hrt ?_
   rintro v en' cnt' ⟨rfl,hI4,hin,hcc⟩
   have q4:=(hin g4 hg hc5).trans e6;simp only[go_sem,kK,f5,bPd]
   refine⟨hlt,_,_,_,y,rfl,?_⟩
   simp only[go_sem,f0,f1,f2,f4,q4,aT (Nat.lt_succ_of_le htb) hl.few1,hl.ev];exact⟨.inr ⟨by omega,hy,hat1⟩,hI4,by omega,by omega⟩
  ·have:t=s:=by omega
   subst this;rcases hfin _ _ hI2 (by omega)with⟨h,_⟩|⟨_,_,hrt⟩|⟨_,h,_⟩
   ·omega
   ·rw[<-hy]at hrt
    refine WIn.mono hrt ?_
    rintro v en' cnt' ⟨rfl,hR⟩
    simp only[go_sem,kK,bPh];exact hR _
   ·exact absurd hat1 h
theorem oR (p:aF)(l:cC):aGw p l=fY p l:=by
 rw[bRd];simp only[aGw,fY,gG,inR,aP,bOx,bQb,Bool.or_eq_false_iff,Bool.not_eq_false',bSi,bSj,bO4];constructor
 ·rintro⟨⟨⟨⟨h1,h2⟩,h3⟩,h4⟩,h5⟩
  have hd:(l.marks.length:Int)=((l.picks.length/l.every.toNat+1:Nat):Int):=by
   rw[h4,bSh (by omega)]
   have:l.every=(l.every.toNat:Int):=by omega
   rw[this];rfl
  have hl:l.marks.length=l.picks.length/l.every.toNat+1:=by exact_mod_cast hd
  have hne:l.marks≠[]:=by intro h;rw[h]at hl;simp at hl
  obtain⟨w,hw⟩:=List.exists_mem_of_ne_nil _ hne;exact⟨⟨⟨⟨(h5 w hw).1,by omega⟩,by omega⟩,zT hl⟩,fun w hw=>(h5 w hw).2⟩
 ·rintro⟨⟨⟨⟨h1,h2⟩,h3⟩,h4⟩,h5⟩
  refine⟨⟨⟨⟨by omega,by omega⟩,by omega⟩,?_⟩,fun w hw=>⟨h1,h5 w hw⟩⟩
  rw[of_decide_eq_true h4,bSh (by omega)]
  have:l.every=(l.every.toNat:Int):=by omega
  rw[this];rfl
theorem aCd {p:aF}{l:cC}{count:aA->Int}{n:Int}: ∀(k t:Nat),
  (∃s,t+1<=s/\ s<=t+k/\ (∀u,t+1<=u->u<s->(atX p l u).2=0/\ ¬n<count (atX p l u).1)/\
   ((atX p l s).2=0/\ n<count (atX p l s).1/\ lB p l count n t k=(((s-1:Nat):Int),0) \/ ¬(atX p l s).2=0/\ lB p l count n t k=(0,(atX p l s).2))) \/
  ((∀u,t+1<=u->u<=t+k->(atX p l u).2=0/\ ¬n<count (atX p l u).1)/\ lB p l count n t k=(0,5))
 |0,t=> .inr ⟨fun u h1 h2=>by omega,rfl⟩
 |k+1,t=>by
  rw[lB]
  by_cases h1:(atX p l (t+1)).2=0
  ·rw[if_pos h1]
   by_cases h2:n<count (atX p l (t+1)).1
   ·rw[if_pos h2];exact .inl ⟨t+1,bOy _,by omega,fun u q1 q2=>by omega,.inl ⟨h1,h2,rfl⟩⟩
   ·rw[if_neg h2];rcases aCd k (t+1)with⟨s,q1,q2,q3,q4⟩|⟨q1,q2⟩
    ·refine .inl ⟨s,by omega,by omega,fun u r1 r2=>?_,q4⟩
     rcases bP4 (t+1) u with h|h
     ·exact q3 u h r2
     ·obtain rfl:u=t+1:=by omega
      exact⟨h1,h2⟩
    ·refine .inr ⟨fun u r1 r2=>?_,q2⟩
     rcases bP4 (t+1) u with h|h
     ·exact q1 u h (by omega)
     ·obtain rfl:u=t+1:=by omega
      exact⟨h1,h2⟩
  ·rw[if_neg h1];exact .inl ⟨t+1,bOy _,by omega,fun u q1 q2=>by omega,.inr ⟨h1,rfl⟩⟩
def bEr (n:Int)(fc:Nat)(en:En)(_:Nat->Nat->Nat):Prop:=
 (∃fr1,en ⟨1,0,0⟩=some (.loop fr1 [26,27] (bB.seq (.ops [mT 7 26]) (.ops [o 8 (.alloc [.cl [],.cl [],.cl [],.cl [],.i 0]),sT 5 8 27])) (bB.block 1 (.seq (.draw [mT 28 7,bN 29 .gtr (.t 28) (cI 0),mT 30 29,g1 31 30 true 5,gT 32 30 true 5 8,og 33 30 true (.call (.t 31) [(.t 32)]),g1 34 30 true 4,gB 35 30 true .gtr (.t 33) (.t 34),pA 36 30 35] [(5,6)]) (.cond (.t 36) (.seq (.ops [mT 37 7,bN 38 .sub (.t 37) (cI 1),sT 1 6 38]) .ret) .skip))) .ready)/\ fr1 4= .ptr ⟨0,4,0⟩ 0/\ fr1 5= .ptr ⟨0,5,0⟩ 0/\ fr1 6= .ptr ⟨0,6,0⟩ 0)/\ en ⟨0,4,0⟩=some (.box [.i n] false)/\ en ⟨0,5,0⟩=some (.box [.fn fc [] []] false)/\ en ⟨0,6,0⟩=some (.box [.i 0] false)
variable {fc:Nat}
theorem aY2 {n:Int}(_:Nat):aVs 1 (bEr n fc):=by
 rintro en cnt en' cnt' ⟨⟨fr1,h1,hf⟩,h2,h3,h4⟩ ho _ _
 exact⟨⟨fr1,(ho 1 0 0 (.inl (by decide))).trans h1,hf⟩,(ho 0 4 0 (.inr (.inr (by decide)))).trans h2,(ho 0 5 0 (.inr (.inl (by decide)))).trans h3,(ho 0 6 0 (.inr (.inl (by decide)))).trans h4⟩
variable {count:aA->Int}
theorem aN5 {n:Int}(hc: ∀w:aA,PC L fc [.agg w.cs] (.i (count w)))(ht:t<=1000)(w:aA)(hI:bEr n fc en cnt):
  WIn L (.yld ⟨1,0,0⟩) [.i (t:Int),.agg w.cs] en cnt fun v en' cnt'=>(v= .bool (!(decide (0<t)&&decide (n<count w))))/\ (v= .bool true->bEr n fc en' cnt')/\
   (v= .bool false->(∃fr1,en' ⟨1,0,0⟩=some (.loop fr1 [26,27] (bB.seq (.ops [mT 7 26]) (.ops [o 8 (.alloc [.cl [],.cl [],.cl [],.cl [],.i 0]),sT 5 8 27])) (bB.block 1 (.seq (.draw [mT 28 7,bN 29 .gtr (.t 28) (cI 0),mT 30 29,g1 31 30 true 5,gT 32 30 true 5 8,og 33 30 true (.call (.t 31) [(.t 32)]),g1 34 30 true 4,gB 35 30 true .gtr (.t 33) (.t 34),pA 36 30 35] [(5,6)]) (.cond (.t 36) (.seq (.ops [mT 37 7,bN 38 .sub (.t 37) (cI 1),sT 1 6 38]) .ret) .skip))) (.done .ret)))/\ en' ⟨0,6,0⟩=some (.box [.i (((t-1:Nat)):Int)] false))/\ (∀g,g<cnt 0 4->1<=g->en' ⟨0,4,g⟩=en ⟨0,4,g⟩)/\ cnt 0 4<=cnt' 0 4:=by
 obtain⟨⟨fr1,h1,q4,q5,q6⟩,h2,h3,h4⟩:=hI
 refine aIm (fr:=fr1) (ps:=[26,27]) (a:=(bB.seq (.ops [mT 7 26]) (.ops [o 8 (.alloc [.cl [],.cl [],.cl [],.cl [],.i 0]),sT 5 8 27]))) (b:=(bB.block 1 (.seq (.draw [mT 28 7,bN 29 .gtr (.t 28) (cI 0),mT 30 29,g1 31 30 true 5,gT 32 30 true 5 8,og 33 30 true (.call (.t 31) [(.t 32)]),g1 34 30 true 4,gB 35 30 true .gtr (.t 33) (.t 34),pA 36 30 35] [(5,6)]) (.cond (.t 36) (.seq (.ops [mT 37 7,bN 38 .sub (.t 37) (cI 1),sT 1 6 38]) .ret) .skip)))) h1 rfl ?_
 simp only[go_sem,kK,h1]
 refine aI ?_
 have hwr:0<t->IntKind.i64.wrap ((t:Int)-1)=((t-1:Nat):Int):=fun h=>by rw[show(t:Int)-1=((t-1:Nat):Int)by omega];exact aW (by omega)
 by_cases h0:0<t
 ·have h0':decide ((0:Int)<(t:Int))=true:=zT (by omega)
  by_cases hw:n<count w
  ·simp only[go_sem,kK,h0',zT h0,zT hw,q4,q5,q6,h2,h3,h4,(hc w).ret,bPr,hwr h0,kA,kF];exact⟨rfl,fun h=>absurd (Val.bool.inj h) (by decide),fun _=>⟨_,rfl⟩,fun _ _ _=>trivial,bOy _⟩
  ·simp only[go_sem,kK,h0',zT h0,zF hw,q4,q5,h2,h3,h4,(hc w).ret,bPr,kA,kF];exact⟨fun _=>⟨⟨_,by simp only[go_sem];rfl,by simp only[go_sem,q4],by simp only[go_sem,q5],by simp only[go_sem,q6]⟩,by simp only[go_sem,h2],by simp only[go_sem,h3],by simp only[go_sem,h4]⟩,fun h=>by simp at h,fun _ _ _=>trivial,bOy _⟩
 ·simp only[go_sem,kK,show decide ((0:Int)<(t:Int))=false from zF (by omega),zF h0,h4,bPm,kA,kF]
  exact⟨fun _=>⟨⟨_,by simp only[go_sem];rfl,by simp only[go_sem,q4],by simp only[go_sem,q5],by simp only[go_sem,q6]⟩,by simp only[go_sem,h2],by simp only[go_sem,h3],by simp only[go_sem,h4]⟩,fun h=>by simp at h,fun _ _ _=>trivial,bOy _⟩
theorem aTj (h:0<l.marks.length):nO 5 en (.fz (l.marks.map aA.enc)) (.i 0)=some {v:= .fp [.fz (l.marks[0].objs.map aR.enc),.is l.marks[0].tasks,.fz (l.marks[0].outs.map bR.enc),.is l.marks[0].ins,.i l.marks[0].used] 0}:=sV h
theorem aDq (hpf:p.few)(hsp:aS p=true)(hok:fY p l=true){n:Int}(hc: ∀w:aA,PC L fc [.agg w.cs] (.i (count w))):
  (0<=n/\ (rY p l count n).2=0->PC L 82 [(ply p l),.i n,.fn fc [] []] (.i (rY p l count n).1))/\
  (n<0->PX L 82 [(ply p l),.i n,.fn fc [] []] (rF 2))/\
  (0<=n/\ ¬(rY p l count n).2=0->PX L 82 [(ply p l),.i n,.fn fc [] []] (rF (rY p l count n).2)):=by
 have hl:=oE.of hok;have h0m:=hl.lt (bO8 l.picks.length);rw[Nat.zero_div]at h0m;have hia:=fun en=>aTj (l:=l) (en:=en) h0m
 have hm0:l.marks[0]=(atX p l 0).1:=by rw[oL hl.e1 (Nat.zero_mod _),Nat.zero_div,nF h0m]
 have ha0:(atX p l 0).2=0:=by rw[oL hl.e1 (Nat.zero_mod _)]
 have hcm:=hc l.marks[0];have hmx:rY p l count n=if n<count l.marks[0]then(0,5)else lB p l count n 0 l.picks.length:=by rw[rY,nF h0m]
 have hw:=aBj p l 0;have hpk:=hl.pk;have hT:=fun R (s:Nat) (h1:s<=l.picks.length+1) (h2: ∀u,0+1<=u->u<s->(atX p l u).2=0/\ ¬n<count (atX p l u).1)=>aN4 (R:=R) (a:=0) (k:=⟨1,0,0⟩) (c4:=1) (I:=fun _=>bEr n fc) hpf hsp hok (bO8 s) (bO8 _) h1 aY2
  (fun t q1 q2=>⟨by
   rcases Nat.eq_zero_or_pos t with rfl|h
   ·exact ha0
   ·exact(h2 t h q2).1,fun en cnt hI _=>(aN5 hc (by omega) _ hI).mono fun v en' cnt' ⟨r1,r2,_,r4,r5⟩=>by
   have hv:v= .bool true:=by
    rw[r1];rcases Nat.eq_zero_or_pos t with rfl|h
    ·rfl
    ·simp[(h2 t h q2).2]
   exact⟨hv,r2 hv,r4,r5⟩⟩)
 refine⟨fun⟨h1,h2⟩=>?_,fun h1=>?_,fun⟨h1,h2⟩=>?_⟩
 ·by_cases hcl:count l.marks[0]<=n
  case neg=>rw[hmx,if_pos (by omega)]at h2;cases h2
  rw[hmx,if_neg (by omega)]at h2⊢
  rcases aCd (p:=p) (l:=l) (count:=count) (n:=n) l.picks.length 0 with⟨s,q1,q2,q3,⟨q4,q5,q6⟩|⟨q4,q5⟩⟩|⟨_,q5⟩
  ·rw[q6];have hL:=at_ func82
   conv at hL=>rhs;reduce
   refine aG hL rfl rfl ?_
   simp only[go_sem,kK,kF]
   refine bL ?_
   simp only[go_sem,zT h1,(bW _).ret,kF]
   refine iU ?_
   simp only[go_sem,hia,hcm.ret,zT hcl,(bW _).ret,kA,kF];simp only[go_sem,hw.ret]
   refine uC (by simp only[go_sem];rfl) ?_
   rintro fr0 k hf hk
   obtain rfl:k=⟨1,0,0⟩:=hk
   refine bD aM9 rfl rfl ?_
   refine hT _ s (by omega) q3 (fun en cnt hI _=> .inr (.inl ⟨by omega,q4,(aN5 hc (by omega) _ hI).mono fun v en' cnt' ⟨r1,_,r3,_,_⟩=>?_⟩)) ⟨⟨fr0,by simp only[go_sem],by rw[hf];simp only[go_sem],by rw[hf];simp only[go_sem],by rw[hf];simp only[go_sem]⟩,by simp only[go_sem],by simp only[go_sem],by simp only[go_sem]⟩ (by decide)
   have hv:v= .bool false:=by rw[r1];simp[q5];omega
   obtain⟨⟨fr1,i1⟩,i6⟩:=r3 hv
   refine⟨hv,fun fr=>⟨rfl,?_⟩⟩
   simp only[go_sem,aJ6,i1,i6]
  ·rw[q5]at h2;exact absurd h2 q4
  ·rw[q5]at h2;cases h2
 ·have hL:=at_ func82
  conv at hL=>rhs;reduce
  refine aAi hL rfl rfl ?_
  simp only[go_sem,kK]
  refine cK 2 rfl ?_
  simp only[go_sem,bO5,bO3,zF (show¬0<=n by omega),(cT _).ret]
 ·have hL:=at_ func82
  conv at hL=>rhs;reduce
  refine aAi hL rfl rfl ?_
  simp only[go_sem,kK]
  refine bL ?_
  simp only[go_sem,zT h1,(bW _).ret,kF]
  by_cases hcl:count l.marks[0]<=n
  case neg=>
   rw[hmx,if_pos (by omega)]
   refine jW 11 rfl rfl ?_
   simp only[go_sem,bO5,bO3,bP9,bP8,qP,hia,hcm.ret,zF hcl,(cT _).ret,kA,kF];rfl
  refine iU ?_
  simp only[go_sem,hia,hcm.ret,zT hcl,(bW _).ret,kA,kF];simp only[go_sem,hw.ret];rw[hmx,if_neg (by omega)]at h2⊢
  rcases aCd (p:=p) (l:=l) (count:=count) (n:=n) l.picks.length 0 with⟨s,q1,q2,q3,⟨q4,q5,q6⟩|⟨q4,q5⟩⟩|⟨q3,q5⟩
  ·rw[q6]at h2;exact absurd rfl h2
  ·rw[q5]
   refine aGf (by simp only[go_sem];rfl) ?_
   rintro fr0 k hf hk
   obtain rfl:k=⟨1,0,0⟩:=hk
   refine cA aM9 rfl rfl ?_
   refine hT _ s (by omega) q3 (fun en cnt hI _=> .inr (.inr ⟨by omega,q4,fun fr=>?_⟩)) ⟨⟨fr0,by simp only[go_sem],by rw[hf];simp only[go_sem],by rw[hf];simp only[go_sem],by rw[hf];simp only[go_sem]⟩,by simp only[go_sem],by simp only[go_sem],by simp only[go_sem]⟩ (by decide)
   rfl
  ·rw[q5]
   refine uC (by simp only[go_sem];rfl) ?_
   rintro fr0 k hf hk
   obtain rfl:k=⟨1,0,0⟩:=hk
   refine bD aM9 rfl rfl ?_
   refine hT _ (l.picks.length+1) (bOy _) (fun u r1 r2=>q3 u r1 (by omega)) (fun en cnt hI _=> .inl ⟨rfl,fun fr=>?_⟩) ⟨⟨fr0,by simp only[go_sem],by rw[hf];simp only[go_sem],by rw[hf];simp only[go_sem],by rw[hf];simp only[go_sem]⟩,by simp only[go_sem],by simp only[go_sem],by simp only[go_sem]⟩ (by decide)
   obtain⟨⟨fr1,i1,_⟩,i4,i5,i6⟩:=hI
   refine⟨rfl,?_⟩
   simp only[go_sem,aJ6,i1]
   refine cK 2 rfl ?_
   simp only[go_sem,bO5,bO3];exact⟨rfl,rfl⟩
theorem aN6 {p:aF}{l:cC}{count:aA->Int}{n:Int}: ∀(k t:Nat),¬(lB p l count n t k).2=0->(lB p l count n t k).1=0
 |0,_,_=>rfl
 |k+1,t,h=>by
  rw[lB]at h⊢
  split at h<;>rename_i h1
  ·rw[if_pos h1]
   split at h<;>rename_i h2
   ·exact absurd rfl h
   ·rw[if_neg h2];exact aN6 k (t+1) h
  ·rw[if_neg h1]
theorem aDr {n:Int}(h: ¬(rY p l count n).2=0):(rY p l count n).1=0:=by
 unfold rY at h⊢
 split at h<;>rename_i h1
 ·rw[if_pos h1]
 ·rw[if_neg h1];exact aN6 _ _ h
def rG (p:aF)(l:cC)(count:aA->Int)(n:Int):Int×Int:=if fY p l=true/\ 0<=n then rY p l count n else(0,2)
theorem aLp (hpf:p.few)(hlf:l.few)(hsp:aS p=true)(n:Int):PC L 29 [.agg p.cs,.agg l.cs,.i n] (.tup [.i (rG p l (fun w=>(w.outs.length:Int)) n).1,.i (rG p l (fun w=>(w.outs.length:Int)) n).2]):=by
 unfold rG;have hL:=at_ func29
 conv at hL=>rhs;reduce
 refine aG hL rfl rfl ?_
 simp only[go_sem,kK,kF]
 refine aDn ?_
 simp only[go_sem,kK]
 by_cases hok:fY p l=true
 case neg=>
  rw[if_neg (fun h=>hok h.1)]
  refine cK 2 rfl ?_
  simp only[go_sem,bO5,bO3,(tI p l hpf hlf hsp (by rw[oR];simpa using hok)).ret]
  refine⟨rfl,cD (x:= .i 0) rfl ?_⟩
  have hL:=at_ func81
  conv at hL=>rhs;reduce
  refine bD hL rfl rfl ?_
  simp only[go_sem]
 have hP:=tH p l hpf hlf hsp (by rw[oR];exact hok)
 obtain⟨f1,f2,f3⟩:=aDq (n:=n) hpf hsp hok aIg
 by_cases hn:0<=n
 case neg=>
  rw[if_neg (fun h=>hn h.2)]
  refine cK 4 rfl ?_
  simp only[go_sem,bO5,bO3,hP.ret,(f2 (by omega)).ret,kF]
  refine⟨rfl,cD (x:= .i 0) rfl ?_⟩
  have hL:=at_ func81
  conv at hL=>rhs;reduce
  refine bD hL rfl rfl ?_
  simp only[go_sem]
 rw[if_pos ⟨hok,hn⟩]
 by_cases hm:(rY p l (fun w=>(w.outs.length:Int)) n).2=0
 ·refine bL ?_
  simp only[go_sem,hP.ret,(f1 ⟨hn,hm⟩).ret,hm,kF]
  refine⟨rfl,lG rfl ?_⟩
  simp only[go_sem]
 ·rw[aDr hm]
  refine cK 4 rfl ?_
  simp only[go_sem,bO5,bO3,hP.ret,(f3 ⟨hn,hm⟩).ret,kF]
  refine⟨rfl,cD (x:= .i 0) rfl ?_⟩
  have hL:=at_ func81
  conv at hL=>rhs;reduce
  refine bD hL rfl rfl ?_
  simp only[go_sem]
theorem aLq (hpf:p.few)(hlf:l.few)(hsp:aS p=true)(n:Int):PC L 30 [.agg p.cs,.agg l.cs,.i n] (.tup [.i (rG p l (fun w=>w.used) n).1,.i (rG p l (fun w=>w.used) n).2]):=by
 unfold rG;have hL:=at_ func30
 conv at hL=>rhs;reduce
 refine aG hL rfl rfl ?_
 simp only[go_sem,kK,kF]
 refine aDn ?_
 simp only[go_sem,kK]
 by_cases hok:fY p l=true
 case neg=>
  rw[if_neg (fun h=>hok h.1)]
  refine cK 2 rfl ?_
  simp only[go_sem,bO5,bO3,(tI p l hpf hlf hsp (by rw[oR];simpa using hok)).ret]
  refine⟨rfl,cD (x:= .i 0) rfl ?_⟩
  have hL:=at_ func84
  conv at hL=>rhs;reduce
  refine bD hL rfl rfl ?_
  simp only[go_sem]
 have hP:=tH p l hpf hlf hsp (by rw[oR];exact hok)
 obtain⟨f1,f2,f3⟩:=aDq (n:=n) hpf hsp hok aIh
 by_cases hn:0<=n
 case neg=>
  rw[if_neg (fun h=>hn h.2)]
  refine cK 4 rfl ?_
  simp only[go_sem,bO5,bO3,hP.ret,(f2 (by omega)).ret,kF]
  refine⟨rfl,cD (x:= .i 0) rfl ?_⟩
  have hL:=at_ func84
  conv at hL=>rhs;reduce
  refine bD hL rfl rfl ?_
  simp only[go_sem]
 rw[if_pos ⟨hok,hn⟩]
 by_cases hm:(rY p l (fun w=>w.used) n).2=0
 ·refine bL ?_
  simp only[go_sem,hP.ret,(f1 ⟨hn,hm⟩).ret,hm,kF]
  refine⟨rfl,lG rfl ?_⟩
  simp only[go_sem]
 ·rw[aDr hm]
  refine cK 4 rfl ?_
  simp only[go_sem,bO5,bO3,hP.ret,(f3 ⟨hn,hm⟩).ret,kF]
  refine⟨rfl,cD (x:= .i 0) rfl ?_⟩
  have hL:=at_ func84
  conv at hL=>rhs;reduce
  refine bD hL rfl rfl ?_
  simp only[go_sem]
theorem aQa (hpf:p.few)(hlf:l.few)(hsp:aS p=true)(n:Int):PC L 31 [.agg p.cs,.agg l.cs,.i n] (.tup [.i (rG p l (fun w=>(w.objs.length:Int)) n).1,.i (rG p l (fun w=>(w.objs.length:Int)) n).2]):=by
 unfold rG;have hL:=at_ func31
 conv at hL=>rhs;reduce
 refine aG hL rfl rfl ?_
 simp only[go_sem,kK,kF]
 refine aDn ?_
 simp only[go_sem,kK]
 by_cases hok:fY p l=true
 case neg=>
  rw[if_neg (fun h=>hok h.1)]
  refine cK 2 rfl ?_
  simp only[go_sem,bO5,bO3,(tI p l hpf hlf hsp (by rw[oR];simpa using hok)).ret]
  refine⟨rfl,cD (x:= .i 0) rfl ?_⟩
  have hL:=at_ func86
  conv at hL=>rhs;reduce
  refine bD hL rfl rfl ?_
  simp only[go_sem]
 have hP:=tH p l hpf hlf hsp (by rw[oR];exact hok)
 obtain⟨f1,f2,f3⟩:=aDq (n:=n) hpf hsp hok aMj
 by_cases hn:0<=n
 case neg=>
  rw[if_neg (fun h=>hn h.2)]
  refine cK 4 rfl ?_
  simp only[go_sem,bO5,bO3,hP.ret,(f2 (by omega)).ret,kF]
  refine⟨rfl,cD (x:= .i 0) rfl ?_⟩
  have hL:=at_ func86
  conv at hL=>rhs;reduce
  refine bD hL rfl rfl ?_
  simp only[go_sem]
 rw[if_pos ⟨hok,hn⟩]
 by_cases hm:(rY p l (fun w=>(w.objs.length:Int)) n).2=0
 ·refine bL ?_
  simp only[go_sem,hP.ret,(f1 ⟨hn,hm⟩).ret,hm,kF]
  refine⟨rfl,lG rfl ?_⟩
  simp only[go_sem]
 ·rw[aDr hm]
  refine cK 4 rfl ?_
  simp only[go_sem,bO5,bO3,hP.ret,(f3 ⟨hn,hm⟩).ret,kF]
  refine⟨rfl,cD (x:= .i 0) rfl ?_⟩
  have hL:=at_ func86
  conv at hL=>rhs;reduce
  refine bD hL rfl rfl ?_
  simp only[go_sem]
def bFr (p:aF)(l:cC)(t:Nat):Prop:=(t+1)%aP l=0/\ ¬(aZ p l t).1=zA l ((t+1)/aP l)
instance (p :aF)(l:cC)(t:Nat):Decidable (bFr p l t):=by unfold bFr;exact inferInstance
def atR (p:aF)(l:cC)(n:Int):aA×Int×Int:=
 if fY p l=true/\ 0<=n/\ n<=(l.picks.length:Int)then(if(atX p l n.toNat).2=0 then((atX p l n.toNat).1,n%(aP l:Int),0)else(aCz,0,(atX p l n.toNat).2))else(aCz,0,2)
theorem aTk (c:fO):oX (rZ c)=false/\ (rZ c).flat=true/\ (rZ c).one=true/\ (rZ c).cells=[rZ c]/\ (rZ c).wk=rZ c/\ (rZ c).wk1=rZ c:=by
 unfold rZ;split
 ·exact⟨rfl,rfl,rfl,rfl,rfl,rfl⟩
 split
 ·exact⟨rfl,rfl,rfl,rfl,rfl,rfl⟩
 split
 ·exact⟨rfl,rfl,rfl,rfl,rfl,rfl⟩
 ·exact⟨rfl,rfl,rfl,rfl,rfl,rfl⟩
theorem aY3 (c:fO)(hc:rE c=true): ∃(f:Nat) (u:Val),wP [(194,386),(196,387),(197,388),(198,389)] (rZ c)= .fn f [u] []/\ (∀en,snapD 8 en u=some (u,[]))/\ u.wk1=u/\ ∀w,gG p w=true->PC L f [u,.agg w.cs] (.bool (oD w c)):=by
 have hT: ∀w,gG p w=true->(∀a∈w.tasks,inR a 0 ((w.objs.length:Int)-1)=true)/\ ∀o∈w.objs,o.form=3->0<o.vals.length:=fun w hw=>by
  simp only[gG,bOx]at hw;obtain⟨_,_,_,_,h5,h6,_⟩:=cV.1 hw.2;simp only[gW,bOx]at h5
  refine⟨fun a ha=>(lE _ _ h5.2 a ha).1,fun o ho h3=>?_⟩
  have:=h6 o ho;simp only[dK,h3,show¬(3:Int)=6 by decide,show¬(3:Int)=5 by decide,show¬(3:Int)=1 by decide,show¬(3:Int)=2 by decide,if_false,if_true]at this
  split at this
  ·cases this
  ·simp only[bOx,bSi]at this;omega
 obtain⟨kd,n,v⟩:=c;simp only[rE,bOx,bSi]at hc;obtain⟨⟨h1,h4⟩,_⟩:=hc;have:kd=1 \/kd=2 \/kd=3 \/kd=4:=by omega
 rcases this with rfl|rfl|rfl|rfl
 ·exact⟨386,_,rfl,fun _=>rfl,rfl,fun w hw=>aVp n v w (hT w hw).2⟩
 ·exact⟨387,_,rfl,fun _=>rfl,rfl,fun w hw=>aVn n w⟩
 ·exact⟨388,_,rfl,fun _=>rfl,rfl,fun w hw=>aP6 n w (hT w hw).1⟩
 ·exact⟨389,_,rfl,fun _=>rfl,rfl,fun w hw=>aVo n w⟩
theorem aGy {p:aF}{l:cC}{c:fO}: ∀(k t:Nat),
  (∃s,t<=s/\ s<t+k/\ (∀u,t<=u->u<s->(atX p l u).2=0/\ oD (atX p l u).1 c=false)/\
   ((atX p l s).2=0/\ oD (atX p l s).1 c=true/\ uX p l c t k=((s:Int),0) \/ ¬(atX p l s).2=0/\ uX p l c t k=(0,(atX p l s).2))) \/
  ((∀u,t<=u->u<t+k->(atX p l u).2=0/\ oD (atX p l u).1 c=false)/\ uX p l c t k=(0,5))
 |0,t=> .inr ⟨fun u h1 h2=>by omega,rfl⟩
 |k+1,t=>by
  rw[uX]
  by_cases h1:(atX p l t).2=0
  ·rw[if_pos h1]
   by_cases h2:oD (atX p l t).1 c=true
   ·rw[if_pos h2];exact .inl ⟨t,bOy _,by omega,fun u q1 q2=>by omega,.inl ⟨h1,h2,rfl⟩⟩
   ·rw[if_neg h2];have h3:oD (atX p l t).1 c=false:=by simpa using h2
    rcases aGy k (t+1)with⟨s,q1,q2,q3,q4⟩|⟨q1,q2⟩
    ·refine .inl ⟨s,by omega,by omega,fun u r1 r2=>?_,q4⟩
     rcases bP4 t u with h|h
     ·exact q3 u h r2
     ·obtain rfl:u=t:=by omega
      exact⟨h1,h3⟩
    ·refine .inr ⟨fun u r1 r2=>?_,q2⟩
     rcases bP4 t u with h|h
     ·exact q1 u h (by omega)
     ·obtain rfl:u=t:=by omega
      exact⟨h1,h3⟩
  ·rw[if_neg h1];exact .inl ⟨t,bOy _,by omega,fun u q1 q2=>by omega,.inr ⟨h1,rfl⟩⟩
def bEs (c:fO)(en:En)(_:Nat->Nat->Nat):Prop:=
 (∃fr1,en ⟨1,0,0⟩=some (.loop fr1 [33,34] (bB.seq (.ops [mT 12 33]) (.ops [o 13 (.alloc [.cl [],.cl [],.cl [],.cl [],.i 0]),sT 5 13 34])) (bB.block 1 (.seq (.ops [l1 35 11,lT 36 5 13,o 37 (.call (.m [(194,386),(196,387),(197,388),(198,389)] 35) [(.t 36)])]) (.cond (.t 37) (.seq (.ops [mT 38 12,sT 1 8 38,on (.store 1 (.t 9) (cI 0))]) .ret) .skip))) .ready)/\ fr1 8= .ptr ⟨0,8,0⟩ 0/\ fr1 9= .ptr ⟨0,9,0⟩ 0/\ fr1 11= .ptr ⟨0,11,0⟩ 0/\ fr1 14= .fn 89 [] [.ptr ⟨0,8,0⟩ 0])/\ en ⟨0,8,0⟩=some (.box [.i 0] false)/\ en ⟨0,9,0⟩=some (.box [.i 0] false)/\ en ⟨0,11,0⟩=some (.box [rZ c] false)
variable {c:fO}
theorem aY4 (_:Nat):aVs 1 (bEs c):=by
 rintro en cnt en' cnt' ⟨⟨fr1,h1,hf⟩,h2,h3,h4⟩ ho _ _
 exact⟨⟨fr1,(ho 1 0 0 (.inl (by decide))).trans h1,hf⟩,(ho 0 8 0 (.inr (.inl (by decide)))).trans h2,(ho 0 9 0 (.inr (.inl (by decide)))).trans h3,(ho 0 11 0 (.inr (.inl (by decide)))).trans h4⟩
theorem aN7 (hc:rE c=true)(hw:gG p w=true)(hI:bEs c en cnt):
  WIn L (.yld ⟨1,0,0⟩) [.i (t:Int),.agg w.cs] en cnt fun v en' cnt'=>(v= .bool (!oD w c))/\ (v= .bool true->bEs c en' cnt')/\
   (v= .bool false->(∃fr1,en' ⟨1,0,0⟩=some (.loop fr1 [33,34] (bB.seq (.ops [mT 12 33]) (.ops [o 13 (.alloc [.cl [],.cl [],.cl [],.cl [],.i 0]),sT 5 13 34])) (bB.block 1 (.seq (.ops [l1 35 11,lT 36 5 13,o 37 (.call (.m [(194,386),(196,387),(197,388),(198,389)] 35) [(.t 36)])]) (.cond (.t 37) (.seq (.ops [mT 38 12,sT 1 8 38,on (.store 1 (.t 9) (cI 0))]) .ret) .skip))) (.done .ret))/\ fr1 8= .ptr ⟨0,8,0⟩ 0/\ fr1 9= .ptr ⟨0,9,0⟩ 0/\ fr1 14= .fn 89 [] [.ptr ⟨0,8,0⟩ 0])/\ en' ⟨0,8,0⟩=some (.box [.i (t:Int)] false)/\ en' ⟨0,9,0⟩=some (.box [.i 0] false))/\ (∀g,g<cnt 0 4->1<=g->en' ⟨0,4,g⟩=en ⟨0,4,g⟩)/\ cnt 0 4<=cnt' 0 4:=by
 obtain⟨⟨fr1,h1,q8,q9,q11,q14⟩,h2,h3,h4⟩:=hI;obtain⟨f,u,hm,hu,hu1,hpc⟩:=aY3 (p:=p) c hc;have hcall:=hpc w hw
 refine aIm (fr:=fr1) (ps:=[33,34]) (a:=(bB.seq (.ops [mT 12 33]) (.ops [o 13 (.alloc [.cl [],.cl [],.cl [],.cl [],.i 0]),sT 5 13 34]))) (b:=(bB.block 1 (.seq (.ops [l1 35 11,lT 36 5 13,o 37 (.call (.m [(194,386),(196,387),(197,388),(198,389)] 35) [(.t 36)])]) (.cond (.t 37) (.seq (.ops [mT 38 12,sT 1 8 38,on (.store 1 (.t 9) (cI 0))]) .ret) .skip)))) h1 rfl ?_
 simp only[go_sem,kK,h1,q11,h4,hm,hu,hu1,hcall.ret,kF]
 by_cases hh:oD w c=true
 ·simp only[go_sem,kK,hh,q8,q9,h2,h3];exact⟨rfl,fun h=>absurd (Val.bool.inj h) (by decide),fun _=>⟨_,rfl,by simp only[go_sem,q8],by simp only[go_sem,q9],by simp only[go_sem,q14]⟩,fun _ _ _=>trivial,bOy _⟩
 ·simp only[go_sem,hh,h2,h3];exact⟨fun _=>⟨⟨_,by simp only[go_sem];rfl,by simp only[go_sem,q8],by simp only[go_sem,q9],by simp only[go_sem,q11],by simp only[go_sem,q14]⟩,by simp only[go_sem,h2],by simp only[go_sem,h3],by simp only[go_sem,h4]⟩,fun h=>absurd (Val.bool.inj h) (by decide),fun _ _ _=>trivial,bOy _⟩
def aLr (p:aF)(l:cC)(a:Int)(c:fO):Int×Int:=
 if fY p l=true/\ (0<=a/\ a<=(l.picks.length:Int))/\ rE c=true then aHy p l a.toNat c else(0,2)
noncomputable def c89 :{c//L 89=some c}:=by
 have hL:=at_ func89
 conv at hL=>rhs;reduce
 exact⟨_,hL⟩
theorem aQb (hpf:p.few)(hlf:l.few)(hsp:aS p=true)(a:Int)(c:fO):PC L 33 [.agg p.cs,.agg l.cs,.i a,c.enc] (.tup [.i (aLr p l a c).1,.i (aLr p l a c).2]):=by
 have hcE:c.enc= .agg [.i c.kind,.i c.n,.i c.v.kind,.i c.v.n]:=rfl;rw[hcE];unfold aLr;have hL:=at_ func33
 conv at hL=>rhs;reduce
 refine aG hL rfl rfl ?_
 simp only[go_sem,kK,kF]
 refine aDn ?_
 simp only[go_sem,kK]
 by_cases hok:fY p l=true
 case neg=>
  rw[if_neg (fun h=>hok h.1)]
  refine cK 2 rfl ?_
  simp only[go_sem,bO5,bO3,(tI p l hpf hlf hsp (by rw[oR];simpa using hok)).ret]
  refine⟨rfl,cD (x:= .i 0) rfl ?_⟩
  refine bD c89.2 rfl rfl ?_
  simp only[go_sem,c89]
 have hl:=oE.of hok;have hP:=tH p l hpf hlf hsp (by rw[oR];exact hok)
 refine bL ?_
 simp only[go_sem,hP.ret,kF]
 by_cases hn:0<=a/\ a<=(l.picks.length:Int)
 case neg=>
  rw[if_neg (fun h=>hn h.2.1)]
  refine cK 9 rfl ?_
  have hc: ¬0<=a \/(0<=a/\ ¬a<=(l.picks.length:Int)):=by omega
  rcases hc with h1|⟨h1,h2⟩
  case' inr=>simp only[go_sem,kK,bO5,bO3,zT h1,zF h2,bOz,(cT _).ret]
  case' inl=>simp only[go_sem,kK,bO5,bO3,zF h1,(cT _).ret]
  all_goals
   refine⟨rfl,cD (x:= .i 0) rfl ?_⟩
   refine bD c89.2 rfl rfl ?_
   simp only[go_sem,c89]
 refine bL ?_
 simp only[go_sem,kK,zT hn.1,zT hn.2,bOz,(bW _).ret,kF]
 by_cases hc:rE c=true
 case neg=>
  rw[if_neg (fun h=>hc h.2.2)]
  refine cK 1 rfl ?_
  have hx:=aP5 c (by simpa using hc)
  rw[hcE]at hx;simp only[go_sem,bO5,bO3,hx.ret]
  refine⟨rfl,cD (x:= .i 0) rfl ?_⟩
  refine bD c89.2 rfl rfl ?_
  simp only[go_sem,c89]
 rw[if_pos ⟨hok,hn,hc⟩];have hx:=aP4 c hc;rw[hcE]at hx;obtain⟨a,rfl⟩:=bP2 hn.1;rw[bPz];have hal:a<=l.picks.length:=by omega
 have hpk:=hl.pk;have hw:=aBj p l a;obtain⟨w1,w2,w3,w4,_,_⟩:=aTk c
 refine bL ?_
 simp only[go_sem,hx.ret,w2,w3,w4,aRj w1,kF];simp only[go_sem,hw.ret];have hT:=fun R (s:Nat) (h0:a<=s) (h1:s<=l.picks.length+1) (h2: ∀u,a<=u->u<s->(atX p l u).2=0/\ oD (atX p l u).1 c=false)=>aN4 (R:=R) (a:=a) (k:=⟨1,0,0⟩) (c4:=1) (I:=fun _=>bEs c) hpf hsp hok h0 hal h1 aY4
  (fun t q1 q2=>⟨(h2 t q1 q2).1,fun en cnt hI _=>(aN7 (t:=t) hc (oN hok (by omega) (h2 t q1 q2).1) hI).mono fun v en' cnt' ⟨r1,r2,_,r4,r5⟩=>by
   have hv:v= .bool true:=by rw[r1,(h2 t q1 q2).2];rfl
   exact⟨hv,r2 hv,r4,r5⟩⟩)
 have hfx:aHy p l a c=uX p l c a (l.picks.length+1-a):=rfl;rw[hfx];rcases aGy (p:=p) (l:=l) (c:=c) (l.picks.length+1-a) a with⟨s,q1,q2,q3,⟨q4,q5,q6⟩|⟨q4,q5⟩⟩|⟨q3,q5⟩
 ·rw[q6]
  refine uC (by simp only[go_sem];rfl) ?_
  rintro fr0 k hf hk
  obtain rfl:k=⟨1,0,0⟩:=hk
  refine bD aM9 rfl rfl ?_
  refine hT _ s q1 (by omega) q3 (fun en cnt hI _=> .inr (.inl ⟨by omega,q4,(aN7 hc (oN hok (by omega) q4) hI).mono fun v en' cnt' ⟨r1,_,r3,_,_⟩=>?_⟩)) ⟨⟨fr0,by simp only[go_sem],by rw[hf];simp only[go_sem],by rw[hf];simp only[go_sem],by rw[hf];simp only[go_sem],by rw[hf];simp only[go_sem]⟩,by simp only[go_sem],by simp only[go_sem],by simp only[go_sem]⟩ (by decide)
  have hv:v= .bool false:=by rw[r1,q5];rfl
  obtain⟨⟨fr1,i1,i8,i9,i14⟩,i2,i3⟩:=r3 hv
  refine⟨hv,fun fr=>⟨rfl,?_⟩⟩
  simp only[go_sem,aJ6,i1]
  refine⟨rfl,lG rfl ?_⟩
  simp only[go_sem,i2,i3]
 ·rw[q5]
  refine aGf (by simp only[go_sem];rfl) ?_
  rintro fr0 k hf hk
  obtain rfl:k=⟨1,0,0⟩:=hk
  refine cA aM9 rfl rfl ?_
  refine hT _ s q1 (by omega) q3 (fun en cnt hI _=> .inr (.inr ⟨by omega,q4,fun fr=>?_⟩)) ⟨⟨fr0,by simp only[go_sem],by rw[hf];simp only[go_sem],by rw[hf];simp only[go_sem],by rw[hf];simp only[go_sem],by rw[hf];simp only[go_sem]⟩,by simp only[go_sem],by simp only[go_sem],by simp only[go_sem]⟩ (by decide)
  obtain⟨⟨fr1,i1,_⟩,i2,i3,_⟩:=hI;simp only[go_sem]
  refine⟨rfl,cD (x:= .i 0) rfl ?_⟩
  refine bD c89.2 rfl rfl ?_
  simp only[go_sem,c89,i2,i3]
 ·rw[q5]
  refine uC (by simp only[go_sem];rfl) ?_
  rintro fr0 k hf hk
  obtain rfl:k=⟨1,0,0⟩:=hk
  refine bD aM9 rfl rfl ?_
  refine hT _ (l.picks.length+1) (by omega) (bOy _) (fun u r1 r2=>q3 u r1 (by omega)) (fun en cnt hI _=> .inl ⟨rfl,fun fr=>?_⟩) ⟨⟨fr0,by simp only[go_sem],by rw[hf];simp only[go_sem],by rw[hf];simp only[go_sem],by rw[hf];simp only[go_sem],by rw[hf];simp only[go_sem]⟩,by simp only[go_sem],by simp only[go_sem],by simp only[go_sem]⟩ (by decide)
  obtain⟨⟨fr1,i1,i8,i9,_,i14⟩,i2,i3,_⟩:=hI
  refine⟨rfl,?_⟩
  simp only[go_sem,aJ6,i1,i2,i3]
  refine⟨rfl,lG rfl ?_⟩
  simp only[go_sem]
def vA (act:Int):Prop:=act=17 \/act=18 \/act=22 \/act=23 \/act=20
instance {act :Int}:Decidable (vA act):=by unfold vA;infer_instance
variable {left:List aB}{op:Int}{v:aD}
variable {a:Int}
variable {pick:Int}
def aMk (p:aF)(w:aA)(e:lV):Int:=
 if vA e.act then aGv (bU p w 0).1 e.task else if e.act=16 \/e.act=21 \/e.act=19 then((bU p w 0).1.objs.length:Int)else-1
def kE (p:aF)(l:cC)(object:Int)(t:Nat):Prop:=((aZ p l t).2.1.act=16 \/(aZ p l t).2.1.act=18)/\ aMk p (atX p l t).1 (aZ p l t).2.1=object
instance {p :aF}{l:cC}{object:Int}{t:Nat}:Decidable (kE p l object t):=by unfold kE;infer_instance
structure bJq (w w':aA):Prop where
 le:w.objs.length<=w'.objs.length
 same: ∀i:Nat,i<w.objs.length->w'.obj i=w.obj i \/((w.obj i).form=6/\ (w'.obj i).form=6)
section
variable {w':aA}(h:bJq w w')(hin:bDs w)
include h
end
theorem mJ (n lo hi:Int):PC L 57 [.i n,.i lo,.i hi] (.bool (inR n lo hi)):=by
 have hL:=at_ func57
 conv at hL=>rhs;reduce
 refine aG hL rfl rfl ?_
 simp only[go_sem,qW]
 refine bG (fun h=>?_) (fun h=>?_)<;>simp only[go_sem,h]<;>simp at h<;>simp[h,inR]
 omega
theorem aFt (l:cC)(n:Int):PC L 17 [.agg [.i l.every,.is l.picks,.fz (l.marks.map aA.enc)],.i n] (.bool (inR n 0 l.picks.length)):=by
 have hL:=at_ func17
 conv at hL=>rhs;reduce
 refine aG hL rfl rfl ?_
 simp only[go_sem,kK,(mJ _ _ _).ret,bOz,kF]
def pF (w:aA)(what:Int):Int:=if what=0 then(w.outs.length:Int)else if what=1 then w.used else(w.objs.length:Int)
theorem aFu (w:aA)(n:Int):PC L 132 [.agg w.cs,.i n] (.i (pF w n)):=by
 have hL:=at_ func132
 conv at hL=>rhs;reduce
 refine aG hL rfl rfl ?_
 unfold pF
 by_cases h0:n=0
 ·rw[if_pos h0];simp only[go_sem,kK,zT h0,bOz,kF]
 ·by_cases h1:n=1
  ·rw[if_neg h0,if_pos h1];simp only[go_sem,kK,zF h0,zT h1,kF]
  ·rw[if_neg h0,if_neg h1];simp only[go_sem,kK,zF h0,zF h1,bOz,kF]
theorem aTo (c:fO):PC L 34 [c.enc] (.bool (rE c)):=by
 have hv:decide (c.v=jL)=(decide (c.v.kind=0)&&decide (c.v.n=0)):=aD.eq_iff.symm
 refine aG bNb rfl rfl ?_
 unfold rE
 by_cases h1:1<=c.kind
 ·by_cases h4:c.kind<=4
  ·by_cases h:c.kind=1
   ·simp only[go_sem,kK,bAu,fO.enc,zT h1,zT h4,zT h,kA,kF,bPr]
   ·simp only[go_sem,kK,bAu,fO.enc,zT h1,zT h4,zF h,hv,kF,bPr,bPv]
  ·simp only[go_sem,kK,bAu,fO.enc,zT h1,zF h4,kF,bPr,bPm]
 ·simp only[go_sem,kK,bAu,fO.enc,zF h1,kF,bPm]
theorem aH4 (hp:eH p)(hsp:aS p=true)(hw:cX p w=true)(pick:Int):
  PC L 70 [.agg p.cs,.agg w.cs,.i pick] (.tup [.agg (dR p w pick).1.cs,evV (dR p w pick).2.1,.i (dR p w pick).2.2]):=by
 have hT:=bD4 hp hsp (zC hw) pick;have hL:=at_ func70
 conv at hL=>rhs;reduce
 refine aG hL rfl rfl ?_
 simp only[go_sem,kK,hT.ret,evV,kF];unfold dR
 simp only
 by_cases h5:(fW p w pick).2.2.2=5
 ·rw[if_pos h5];simp only[go_sem,kK,zT h5,iE,jL]
 rw[if_neg h5]
 by_cases h0:(fW p w pick).2.2.2=0
 ·rw[if_pos h0];simp only[go_sem,kK,h0]
  refine aI ?_
  simp only[go_sem,kA,kF]
 ·rw[if_neg h0];simp only[go_sem,kK,zF h5,zF h0,iE,jL,bPh]
theorem aDt (hpf:p.few)(hlf:l.few)(hc:p.cons.length<=1000):PC L 12 [.agg p.cs,.agg [.i l.every,.is l.picks,.fz (l.marks.map aA.enc)]] (.bool (fY p l)):=by
 have hF:=aMb p hpf hc;have hlog:fY p l=(fG p&&inR l.every 1 20&&decide (l.picks.length<=200)&&decide (l.marks.length=l.picks.length/aP l+1)&&l.marks.all (cX p)):=rfl;have hL:=at_ func12
 conv at hL=>rhs;reduce
 refine aG hL rfl rfl ?_
 cases hf:fG p with
 |false=>rw[hf]at hF hlog;rw[hlog];simp only[go_sem,kK,hF.ret,bPh,bPm,kF]
 |true=>
 cases he:inR l.every 1 20 with
 |false=>rw[hf]at hF hlog;rw[he]at hlog;rw[hlog];simp only[go_sem,kK,hF.ret,(mJ _ _ _).ret,he,bPh,bPd,bPm,bQc,kF]
 |true=>
 rw[hf]at hF hlog;rw[he]at hlog;rw[hlog]
 by_cases hk:l.picks.length<=200
 case neg=>simp only[go_sem,kK,hF.ret,(mJ _ _ _).ret,he,bOz,zF hk,show decide ((200:Int)<(l.picks.length:Int))=true from zT (by omega),bPd,bPm,bQc,kF]
 have hev:l.every=(aP l:Int):=by simp only[inR,bSi]at he;unfold aP;omega
 have h1:1<=aP l:=by simp only[inR,bSi]at he;unfold aP;omega
 have hdv:((l.picks.length:Int)).tdiv (aP l:Int)=((l.picks.length/aP l:Nat):Int):=by rw[bSh (by omega)];rfl
 have hle:=Nat.div_le_self l.picks.length (aP l);have hw1:IntKind.i64.wrap (((l.picks.length/aP l:Nat):Int))=((l.picks.length/aP l:Nat):Int):=by generalize l.picks.length/aP l=q at hle⊢;exact aW (by omega)
 have hw2:IntKind.i64.wrap (((l.picks.length/aP l:Nat):Int)+1)=((l.picks.length/aP l+1:Nat):Int):=by generalize l.picks.length/aP l=q at hle⊢;rw[aW (by omega)];rfl
 have hne: ¬(aP l:Int)=0:=by omega
 have hk':decide ((200:Int)<(l.picks.length:Int))=false:=zF (by omega)
 rw[hev]at he;simp only[go_sem,kK,hF.ret,(mJ _ _ _).ret,hev,he,bOz,zT hk,hk',hne,hdv,hw1,hw2,bPd,bPr,bQ2,kF]
 by_cases hm:l.marks.length=l.picks.length/aP l+1
 case neg=>simp only[go_sem,kK,zF hm,bPh,bPm]
 simp only[go_sem,zT hm,bPd,bPr]
 refine bQ l.marks.length (fun k st=> ∃fr en cnt,st=⟨fr,en,cnt⟩/\ fr 2= .ptr ⟨0,2,0⟩ 0/\ fr 3= .ptr ⟨0,3,0⟩ 0/\ fr 5= .i (k:Int)/\ en ⟨0,2,0⟩=some (.box [.fz (p.nodes.map aJ.enc),.fz (p.funs.map (.int .i64)),.i p.main,.fz (p.cons.map cO.enc)] false)/\ en ⟨0,3,0⟩=some (.box [.i (aP l:Int),.is l.picks,.fz (l.marks.map aA.enc)] false)/\ (l.marks.drop k).all (cX p)=l.marks.all (cX p)) 0 (bO8 _) ⟨_,_,_,rfl,by simp only[go_sem],by simp only[go_sem],by simp only[go_sem],by simp only[go_sem],by simp only[go_sem],rfl⟩ ?_
 rintro k st hk ⟨fr,en,cnt,rfl,f2,f3,f5,e2,e3,hI⟩
 simp only[go_sem,kK,f3,f5,e3,bOz]
 refine aH (fun hq=>?_) (fun hq=>?_)
 ·have h':k<l.marks.length:=of_decide_eq_true hq;have hW:=aO8 p l.marks[k] hpf (hlf.2.2 _ (bO6 h'));have hst:=fQ h' (cX p);rw[<-hI,hst];simp only[go_sem,kK,f2,f3,f5,e2,e3,sV h',hW.ret,kF];cases hb:cX p l.marks[k]with
  |false=>simp only[go_sem,kK,bPh,bPm]
  |true=>
   simp only[go_sem,bPd,bPr,f5,h',aT h' hlf.2.1];exact⟨_,_,_,rfl,by simp only[go_sem,f2],by simp only[go_sem,f3],by simp only[go_sem],e2,e3⟩
 ·have:k=l.marks.length:=by simp at hq;omega
  subst this;rw[<-hI,bQt];simp only[go_sem]
def oB (l:cC):Bool:=!(decide (25<l.picks.length)&&decide (l.picks.length<=200))&&decide (l.picks.length<=205)&&decide (l.marks.length<=30)&&l.marks.all dB
theorem aQc (hlf:l.few):PC L 49 [.agg [.i l.every,.is l.picks,.fz (l.marks.map aA.enc)]] (.bool (oB l)):=by
 have hS:oB l=(!(decide (25<l.picks.length)&&decide (l.picks.length<=200))&&decide (l.picks.length<=205)&&decide (l.marks.length<=30)&&l.marks.all dB):=rfl;have c1:decide ((25:Int)<(l.picks.length:Int))=decide (25<l.picks.length):=by rw[bRd,bSi,bSi];omega
 have c2:decide ((l.picks.length:Int)<=200)=decide (l.picks.length<=200):=by rw[bRd,bSi,bSi];omega
 have c3:decide ((205:Int)<(l.picks.length:Int))=!decide (l.picks.length<=205):=by rw[bRd,bQb,bSi,bSj];omega
 have c4:decide ((30:Int)<(l.marks.length:Int))=!decide (l.marks.length<=30):=by rw[bRd,bQb,bSi,bSj];omega
 rw[hS];have hL:=at_ func49
 conv at hL=>rhs;reduce
 refine aG hL rfl rfl ?_
 generalize decide (25<l.picks.length)=b1 at c1⊢;generalize decide (l.picks.length<=200)=b2 at c2⊢;generalize decide (l.picks.length<=205)=b3 at c3⊢;generalize decide (l.marks.length<=30)=b4 at c4⊢;cases b1<;>cases b2<;>cases b3<;>cases b4
 all_goals simp only[go_sem,kK,bOz,c1,c2,c3,c4,bPh,bPd,bPr,bPm,bQc,bQ2,kF]
 all_goals
  refine bQ l.marks.length (fun k st=> ∃fr en cnt,st=⟨fr,en,cnt⟩/\ fr 1= .ptr ⟨0,1,0⟩ 0/\ fr 3= .i (k:Int)/\ en ⟨0,1,0⟩=some (.box [.i l.every,.is l.picks,.fz (l.marks.map aA.enc)] false)/\ (l.marks.drop k).all dB=l.marks.all dB) 0 (bO8 _) ⟨_,_,_,rfl,by simp only[go_sem],by simp only[go_sem],by simp only[go_sem],rfl⟩ ?_
  rintro k st hk ⟨fr,en,cnt,rfl,f1,f3,e1,hI⟩
  simp only[go_sem,kK,f1,f3,e1,bOz]
  refine aH (fun hq=>?_) (fun hq=>?_)
  ·have h':k<l.marks.length:=of_decide_eq_true hq;have hW:=aEs l.marks[k] (hlf.2.2 _ (bO6 h'));have hst:=fQ h' dB;rw[<-hI,hst];simp only[go_sem,kK,f1,f3,e1,sV h',hW.ret,kF];cases hb:dB l.marks[k]with
   |false=>simp only[go_sem,kK,bPh,bPm]
   |true=>
    simp only[go_sem,bPd,bPr,f3,h',aT h' hlf.2.1];exact⟨_,_,_,rfl,by simp only[go_sem,f1],by simp only[go_sem],e1⟩
  ·have:k=l.marks.length:=by simp at hq;omega
   subst this;rw[<-hI,bQt];simp only[go_sem]
theorem cC.eq_iff {a b:cC}:a=b↔a.every=b.every/\ a.picks=b.picks/\ a.marks=b.marks:=by
 cases a;cases b;simp
instance : DecidableEq cC:=fun _ _=>decidable_of_iff _ cC.eq_iff.symm
theorem aFv (hpf:p.few)(hlf:l.few):PC L 9 [.agg p.cs,.agg [.i l.every,.is l.picks,.fz (l.marks.map aA.enc)]] (.bool (aS p&&oB l)):=by
 have h1:=aGj p hpf;have h2:=aQc hlf;have hL:=at_ func9
 conv at hL=>rhs;reduce
 refine aG hL rfl rfl ?_
 cases hb:aS p with
 |false=>rw[hb]at h1;simp only[go_sem,kK,h1.ret,bPm,kF]
 |true=>rw[hb]at h1;simp only[go_sem,kK,h1.ret,h2.ret,bPr,kF]
theorem aN8 {p:aF}{l:cC}: ∀(k i:Nat) (w:aA),¬(zB p l i k w).2=0->(zB p l i k w).1=aCz
 |0,_,_,h=>absurd rfl h
 |k+1,i,w,h=>by
  rw[zB]at h⊢
  split at h<;>rename_i h1
  ·rw[if_pos h1];exact aN8 k (i+1) _ h
  ·rw[if_neg h1]
theorem bEv (h: ¬(atX p l n).2=0):(atX p l n).1=aCz:=aN8 _ _ _ h
theorem aY6 (h:(atX p l t).2=0):(aZ p l t).2.2=(dR p (atX p l t).1 (iL l t)).2.2:=by
 unfold aZ;rw[if_pos h];split<;>rfl
theorem xS (hpf:p.few)(hsp:aS p=true)(hok:fY p l=true)(hn:n<=l.picks.length):PC L 19 [.agg p.cs,.agg [.i l.every,.is l.picks,.fz (l.marks.map aA.enc)],.i (n:Int)] (.tup [.agg (atX p l n).1.cs,.i (atX p l n).2]):=by
 have hl:=oE.of hok;have hfm:=pL (pN hok).1;obtain⟨a,ha⟩: ∃a,a=n/aP l*aP l:=⟨_,rfl⟩
 have han:a<=n:=by rw[ha];exact bSd ..
 have hma:a%aP l=0:=by rw[ha];exact Nat.mul_mod_left ..
 have hlt:=hl.lt hn;have hia:=fun en=>sV (l:=l) (en:=en) hlt
 have hmul:=hl.mul hn;rw[<-ha]at hmul;have hda:a/aP l=n/aP l:=by rw[ha];exact Nat.mul_div_cancel _ (by have:=hl.e1;omega)
 have hma0:=oL (p:=p) hl.e1 hma;rw[hda,nF hlt]at hma0;have hmw:l.marks[n/aP l]=(atX p l a).1:=by rw[hma0]
 have hnx: ∀t,a<=t->t<n->(aZ p l t).2.2=0->(atX p l (t+1)).1=(aZ p l t).1:=fun t h1 h2 h0=>by
  rcases(aIu hl h0).2 with h|h
  ·exfalso
   have h3:(t+1)/aP l*aP l=t+1:=aGx h;have h4:(t+1)/aP l<=n/aP l:=Nat.div_le_div_right h2;have h5:=bP5 (aP l) h4;rw[h3,<-ha]at h5;omega
  ·exact h
 obtain⟨s,hs1,hs2,hs3,hs4⟩: ∃s,a<=s/\ s<=n/\ (∀t,a<=t->t<s->(aZ p l t).2.2=0)/\ ((s=n/\ (atX p l n).2=0) \/(s<n/\ ¬(aZ p l s).2.2=0/\ (aZ p l s).2.2=(atX p l n).2)):=by
  by_cases h0:(atX p l n).2=0
  ·exact⟨n,han,bOy _,fun t h1 h2=>aP7 hl n h0 t (by rw[<-ha];exact h1) h2,.inl ⟨rfl,h0⟩⟩
  ·obtain⟨s,h1,h2,h3,h4,h5⟩:=aP8 hl n h0;rw[<-ha]at h1 h3;exact⟨s,h1,by omega,h3,.inr ⟨h2,h4,h5⟩⟩
 have hpk:=hl.pk;simp only[hl.ev];have hL:=at_ func19
 conv at hL=>rhs;reduce
 refine aG hL rfl rfl ?_
 simp only[go_sem,kK,hl.ne,hl.div,hl.wdiv hn,hmul,hia,kF]
 refine bQ s (fun i st=> ∃fr en cnt w,st=⟨fr,en,cnt⟩/\ fr 2= .i (n:Int)/\ fr 3= .ptr ⟨0,3,0⟩ 0/\ fr 4= .ptr ⟨0,4,0⟩ 0/\ fr 6= .ptr ⟨0,6,0⟩ 0/\ fr 9= .ptr ⟨0,9,0⟩ 0/\ fr 10= .i (i:Int)/\ en ⟨0,3,0⟩=some (.box [.fz (p.nodes.map aJ.enc),.fz (p.funs.map (.int .i64)),.i p.main,.fz (p.cons.map cO.enc)] false)/\ en ⟨0,4,0⟩=some (.box [.i (aP l:Int),.is l.picks,.fz (l.marks.map aA.enc)] false)/\ en ⟨0,6,0⟩=some (.box [.cl [],.cl [],.cl [],.cl [],.i 0] false)/\
  en ⟨0,9,0⟩=some (.box [.fz (w.objs.map aR.enc),.is w.tasks,.fz (w.outs.map bR.enc),.is w.ins,.i w.used] false)/\ w=(atX p l i).1/\ (atX p l i).2=0/\ a<=i) a hs1 ⟨_,_,_,l.marks[n/aP l],rfl,by simp only[go_sem],by simp only[go_sem],by simp only[go_sem],by simp only[go_sem],by simp only[go_sem],by simp only[go_sem],by simp only[go_sem],by simp only[go_sem],by simp only[go_sem],by simp only[go_sem],hmw,by rw[hma0],bOy _⟩ ?_
 rintro i st hi ⟨fr,en,cnt,w,rfl,f2,f3,f4,f6,f9,f10,e3,e4,e6,e9,hw,hw0,hai⟩
 simp only[go_sem,kK,f2,f10]
 by_cases hin:i<n
 case neg=>
  have:i=n:=by omega
  subst this;have:s=i:=by omega
  subst this;rw[<-hw,hw0];simp only[go_sem,zF hin,f6,f9,e6,e9]
 have hT:=aH4 hfm hsp (aVk hfm hok (bQm (bPo hin hn)) hw0) (iL l i);have hil:i<l.picks.length:=by omega
 rw[<-hw,oM hil]at hT;simp only[go_sem,zT hin]
 refine aI ?_
 simp only[go_sem,kK,f3,f4,f9,f10,e3,e4,e9,hil,hT.ret,evV,kA,kF];have hae:=aY6 hw0;rw[<-hw,oM hil]at hae
 by_cases hr:(dR p w l.picks[i]).2.2=0
 ·have his:i<s:=by
   rcases hs4 with⟨h,_⟩|⟨_,h,_⟩
   ·omega
   ·rcases bP4 i s with h'|h'
    ·exact h'
    ·obtain rfl:s=i:=by omega
     exact absurd (hae.trans hr) h
  have hax:aZ p l i=dR p w l.picks[i]:=by rw[(qO (hae.trans hr)).2.2,<-hw,oM hil]
  have hn1:=hnx i hai hin (hae.trans hr);rw[hax]at hn1;simp only[go_sem,zT hr,f9,f10,e9,bPd,aT hil hl.few];exact⟨his,_,_,_,(dR p w l.picks[i]).1,rfl,by simp only[go_sem,f2],by simp only[go_sem,f3],by simp only[go_sem,f4],by simp only[go_sem,f6],by simp only[go_sem,f9],by simp only[go_sem],by simp only[go_sem,e3],by simp only[go_sem,e4],by simp only[go_sem,e6],by simp only[go_sem],hn1.symm,(aIu hl (hae.trans hr)).1,by omega⟩
 ·rcases hs4 with⟨h,_⟩|⟨h1,h2,h3⟩
  ·exact absurd (hae.symm.trans (hs3 i hai (by omega))) hr
  ·have his:i=s:=by
    rcases bP4 i s with h'|h'
    ·exact absurd (hae.symm.trans (hs3 i hai h')) hr
    ·omega
   subst his;rw[bEv (n:=n) (by rw[<-h3];exact h2),<-h3,hae]
   simp only[go_sem,kK,zF hr,f6,e6,bPh];rfl
theorem aTp (hpf:p.few)(hsp:aS p=true)(hok:fY p l=true)(what n:Int):
  PC L 88 [.agg p.cs,.agg l.cs,.i what,.i n] (.tup [.i (rY p l (fun w=>pF w what) n).1,.i (rY p l (fun w=>pF w what) n).2]):=by
 have hl:=oE.of hok;have hpk:=hl.pk;have h0m:=hl.lt (bO8 l.picks.length);rw[Nat.zero_div]at h0m;have hia:=fun en=>aTj (l:=l) (en:=en) h0m
 unfold rY;rw[nF h0m];have hL:=at_ func88
 conv at hL=>rhs;reduce
 refine aG hL rfl rfl ?_
 simp only[go_sem,kK,hia,(aFu _ _).ret,kF]
 by_cases hn:n<pF l.marks[0] what
 case pos=>rw[if_pos hn];simp only[go_sem,kK,zT hn]
 rw[if_neg hn];simp only[go_sem,zF hn];obtain⟨s,hs1,hs2,hs3⟩: ∃s,s<=l.picks.length/\ (∀u,u<s->(atX p l (u+1)).2=0/\ ¬n<pF (atX p l (u+1)).1 what)/\ ((s=l.picks.length/\ lB p l (fun w=>pF w what) n 0 l.picks.length=(0,5)) \/
   (s<l.picks.length/\ ((atX p l (s+1)).2=0/\ n<pF (atX p l (s+1)).1 what/\ lB p l (fun w=>pF w what) n 0 l.picks.length=((s:Int),0) \/ ¬(atX p l (s+1)).2=0/\ lB p l (fun w=>pF w what) n 0 l.picks.length=(0,(atX p l (s+1)).2)))):=by
  rcases aCd (p:=p) (l:=l) (count:=fun w=>pF w what) (n:=n) l.picks.length 0 with⟨s,q1,q2,q3,q4⟩|⟨q3,q4⟩
  ·obtain⟨s,rfl⟩: ∃s',s=s'+1:=⟨s-1,by omega⟩
   exact⟨s,by omega,fun u hu=>q3 (u+1) (by omega) (by omega),.inr ⟨by omega,q4⟩⟩
  ·exact⟨_,bOy _,fun u hu=>q3 (u+1) (by omega) (by omega),.inl ⟨rfl,q4⟩⟩
 refine bQ s (fun t st=> ∃fr en cnt,st=⟨fr,en,cnt⟩/\ fr 2= .i what/\ fr 3= .i n/\ fr 4= .ptr ⟨0,4,0⟩ 0/\ fr 5= .ptr ⟨0,5,0⟩ 0/\ fr 10= .i (t:Int)/\ en ⟨0,4,0⟩=some (.box p.cs false)/\ en ⟨0,5,0⟩=some (.box l.cs false)) 0 (bO8 _) ⟨_,_,_,rfl,by simp only[go_sem],by simp only[go_sem],by simp only[go_sem],by simp only[go_sem],by simp only[go_sem],by simp only[go_sem],by simp only[go_sem]⟩ ?_
 rintro t st ht ⟨fr,en,cnt,rfl,f2,f3,f4,f5,f10,e4,e5⟩
 simp only[go_sem,kK,f5,f10,e5,bOz]
 by_cases htl:t<l.picks.length
 case neg=>
  rcases hs3 with⟨_,h⟩|⟨h,_⟩
  ·rw[h];simp only[go_sem,zF htl]
  ·omega
 have hA:=xS hpf hsp hok (n:=t+1) htl;simp only[go_sem,kK,zT htl,f4,f5,f10,e4,e5,aT htl hl.few,hA.ret,kF];have hst: ¬((atX p l (t+1)).2=0/\ ¬n<pF (atX p l (t+1)).1 what)->s=t:=fun h=>by
  rcases bP4 t s with h'|h'
  ·exact absurd (hs2 t h') h
  ·omega
 by_cases h0:(atX p l (t+1)).2=0
 case neg=>
  have:=hst (fun h=>h0 h.1)
  subst this;rcases hs3 with⟨h,_⟩|⟨_,⟨h,_⟩|⟨_,h⟩⟩
  ·omega
  ·exact absurd h h0
  ·rw[h];simp only[go_sem,kK,zF h0,bPh]
 simp only[go_sem,kK,zT h0,f2,f3,(aFu _ _).ret,bPd,kF]
 by_cases hc:n<pF (atX p l (t+1)).1 what
 ·have:=hst (fun h=>h.2 hc)
  subst this;rcases hs3 with⟨h,_⟩|⟨_,⟨_,_,h⟩|⟨h,_⟩⟩
  ·omega
  ·rw[h];simp only[go_sem,kK,zT hc,f10]
  ·exact absurd h0 h
 ·have hts:t<s:=by
   rcases bP4 t s with h'|h'
   ·exact h'
   ·have:s=t:=by omega
    subst this;rcases hs3 with⟨h',_⟩|⟨_,⟨_,h',_⟩|⟨h',_⟩⟩
    ·omega
    ·exact absurd h' hc
    ·exact absurd h0 h'
  simp only[go_sem,zF hc,f10,aT htl hl.few];exact⟨hts,_,_,_,rfl,by simp only[go_sem,f2],by simp only[go_sem,f3],by simp only[go_sem,f4],by simp only[go_sem,f5],by simp only[go_sem],by simp only[go_sem,e4],by simp only[go_sem,e5]⟩
theorem aQe (hf:w.few)(hi: ∀a∈w.tasks,inR a 0 ((w.objs.length:Int)-1)=true)(hc: ∀o∈w.objs,o.form=3->0<o.vals.length):PC L 92 [.agg w.cs,c.enc] (.bool (oD w c)):=by
 have w1:IntKind.i64.wrap ((w.objs.length:Int)-1)=(w.objs.length:Int)-1:=by have:=hf.1;unfold Few at this;exact aW (by omega)
 have w2:IntKind.i64.wrap ((w.tasks.length:Int)-1)=(w.tasks.length:Int)-1:=by have:=hf.tasks;unfold Few at this;exact aW (by omega)
 refine aG bNc rfl rfl ?_
 unfold oD
 by_cases h1:c.kind=1
 ·rw[if_pos h1];cases hr:inR c.n 0 ((w.objs.length:Int)-1)with
  |false=>simp only[go_sem,kK,aRz,fO.enc,zT h1,bOz,w1,(mJ _ _ _).ret,hr,bPm,kF]
  |true=>
   have hr':=hr;simp only[inR,bSi]at hr';obtain⟨m,hm⟩:=bP2 hr'.1;have hml:m<w.objs.length:=by omega
   rw[hm]at hr;rw[hm,nR hml]
   by_cases h3:w.objs[m].form=3
   ·have hl:=hc _ (bO6 hml) h3;rcases hvv:w.objs[m].vals with _|⟨x,xs⟩
    ·rw[hvv]at hl;simp at hl
    have hia: ∀en:En,nO 2 en (.fz (.agg [.i x.kind,.i x.n]::List.map aD.enc xs)) (.i 0)=some {v:= .fp [.i x.kind,.i x.n] 0}:=fun en=>by
     simp[nO]
     first|exact⟨rfl,rfl⟩|rfl
    simp only[go_sem,kK,aRz,fO.enc,zT h1,bOz,w1,(mJ _ _ _).ret,hm,hr,hml,h3,hvv,hia,bPr,kF];simp[aE,<-aD.eq_iff]
   ·simp only[go_sem,kK,aRz,fO.enc,zT h1,bOz,w1,(mJ _ _ _).ret,hm,hr,hml,zF h3,bPm,bQc,kF]
 rw[if_neg h1]
 by_cases h2:c.kind=2
 ·rw[if_pos h2];simp only[go_sem,kK,aRz,fO.enc,zF h1,zT h2,bOz,kF]
 rw[if_neg h2]
 by_cases h3:c.kind=3
 ·rw[if_pos h3];cases hr:inR c.n 0 ((w.tasks.length:Int)-1)with
  |false=>simp only[go_sem,kK,aRz,fO.enc,zF h1,zF h2,zT h3,bOz,w2,(mJ _ _ _).ret,hr,bPm,kF]
  |true=>
   have hr':=hr;simp only[inR,bSi]at hr';obtain⟨m,hm⟩:=bP2 hr'.1;have hml:m<w.tasks.length:=by omega
   have ha:=hi _ (bO6 hml);have ht:bA w m=w.tasks[m]:=by simp[bA,hml]
   simp only[inR,bSi]at ha;obtain⟨j,hj⟩:=bP2 ha.1;have hj':j<w.objs.length:=by omega
   rw[hm]at hr;rw[hm,ht,hj];simp only[go_sem,kK,aRz,fO.enc,zF h1,zF h2,zT h3,bOz,w2,(mJ _ _ _).ret,hm,hr,hml,hj,hj',bPr,kF];rw[nR hj']
 ·rw[if_neg h3];simp only[go_sem,kK,aRz,fO.enc,zF h1,zF h2,zF h3,bOz,kF]
theorem aH5 (hw:gG p w=true):(∀a∈w.tasks,inR a 0 ((w.objs.length:Int)-1)=true)/\ ∀o∈w.objs,o.form=3->0<o.vals.length:=by
 simp only[gG,bOx]at hw;obtain⟨_,_,_,_,h5,h6,_⟩:=cV.1 hw.2;simp only[gW,bOx]at h5
 refine⟨fun a ha=>(lE _ _ h5.2 a ha).1,fun o ho h3=>?_⟩
 have:=h6 o ho;simp only[dK,h3,show¬(3:Int)=6 by decide,show¬(3:Int)=5 by decide,show¬(3:Int)=1 by decide,show¬(3:Int)=2 by decide,if_false,if_true]at this
 split at this
 ·cases this
 ·simp only[bOx,bSi]at this;omega
theorem aTq (hpf:p.few)(hsp:aS p=true)(hok:fY p l=true){a:Nat}(ha:a<=l.picks.length)(c:fO):
  PC L 35 [.agg p.cs,.agg l.cs,.i (a:Int),c.enc] (.tup [.i (aHy p l a c).1,.i (aHy p l a c).2]):=by
 have hl:=oE.of hok;have hpk:=hl.pk;have hcE:c.enc= .agg [.i c.kind,.i c.n,.i c.v.kind,.i c.v.n]:=rfl;rw[hcE];have hL:=at_ func35
 conv at hL=>rhs;reduce
 refine aG hL rfl rfl ?_
 simp only[go_sem,kK,kF];obtain⟨s,hs0,hs1,hs2,hs3⟩: ∃s,a<=s/\ s<=l.picks.length+1/\ (∀u,a<=u->u<s->(atX p l u).2=0/\ oD (atX p l u).1 c=false)/\ ((s=l.picks.length+1/\ aHy p l a c=(0,5)) \/
   (s<l.picks.length+1/\ ((atX p l s).2=0/\ oD (atX p l s).1 c=true/\ aHy p l a c=((s:Int),0) \/ ¬(atX p l s).2=0/\ aHy p l a c=(0,(atX p l s).2)))):=by
  rcases aGy (p:=p) (l:=l) (c:=c) (l.picks.length+1-a) a with⟨s,q1,q2,q3,q4⟩|⟨q3,q4⟩
  ·exact⟨s,q1,by omega,q3,.inr ⟨by omega,q4⟩⟩
  ·exact⟨_,by omega,bOy _,fun u h1 h2=>q3 u h1 (by omega),.inl ⟨rfl,q4⟩⟩
 refine bQ s (fun t st=> ∃fr en cnt,st=⟨fr,en,cnt⟩/\ fr 4= .ptr ⟨0,4,0⟩ 0/\ fr 5= .ptr ⟨0,5,0⟩ 0/\ fr 7= .ptr ⟨0,7,0⟩ 0/\ fr 10= .i (t:Int)/\ en ⟨0,4,0⟩=some (.box p.cs false)/\ en ⟨0,5,0⟩=some (.box l.cs false)/\ en ⟨0,7,0⟩=some (.box [.i c.kind,.i c.n,.i c.v.kind,.i c.v.n] false)/\ a<=t) a hs0 ⟨_,_,_,rfl,by simp only[go_sem],by simp only[go_sem],by simp only[go_sem],by simp only[go_sem],by simp only[go_sem],by simp only[go_sem],by simp only[go_sem],bOy _⟩ ?_
 rintro t st ht ⟨fr,en,cnt,rfl,f4,f5,f7,f10,e4,e5,e7,hat⟩
 simp only[go_sem,kK,f5,f10,e5,bOz]
 by_cases htl:t<=l.picks.length
 case neg=>
  rcases hs3 with⟨_,h⟩|⟨h,_⟩
  ·rw[h];simp only[go_sem,zF htl]
  ·omega
 have hA:=xS hpf hsp hok htl;simp only[go_sem,kK,zT htl,f4,f5,f10,e4,e5,hA.ret,kF];have hst: ¬((atX p l t).2=0/\ oD (atX p l t).1 c=false)->s=t:=fun h=>by
  rcases bP4 t s with h'|h'
  ·exact absurd (hs2 t hat h') h
  ·omega
 by_cases h0:(atX p l t).2=0
 case neg=>
  have:=hst (fun h=>h0 h.1)
  subst this;rcases hs3 with⟨h,_⟩|⟨_,⟨h,_⟩|⟨_,h⟩⟩
  ·omega
  ·exact absurd h h0
  ·rw[h];simp only[go_sem,kK,zF h0,bPh]
 have hg:=oN hok htl h0;have hH:=aQe (sA hsp hg) (c:=c) (aH5 hg).1 (aH5 hg).2;rw[hcE]at hH;simp only[go_sem,kK,zT h0,f7,e7,hH.ret,bPd,kF];cases hc:oD (atX p l t).1 c with
 |true=>
  have:=hst (fun h=>by rw[h.2]at hc;cases hc)
  subst this;rcases hs3 with⟨h,_⟩|⟨_,⟨_,_,h⟩|⟨h,_⟩⟩
  ·omega
  ·rw[h];simp only[go_sem,kK,f10]
  ·exact absurd h0 h
 |false=>
  have hts:t<s:=by
   rcases bP4 t s with h'|h'
   ·exact h'
   ·have:s=t:=by omega
    subst this;rcases hs3 with⟨h',_⟩|⟨_,⟨_,h',_⟩|⟨h',_⟩⟩
    ·omega
    ·rw[hc]at h';cases h'
    ·exact absurd h0 h'
  have hw1:IntKind.i64.wrap ((t:Int)+1)=((t+1:Nat):Int):=aUp (by unfold Few;omega)
  simp only[go_sem,f10,hw1];exact⟨hts,_,_,_,rfl,by simp only[go_sem,f4],by simp only[go_sem,f5],by simp only[go_sem,f7],by simp only[go_sem],by simp only[go_sem,e4],by simp only[go_sem,e5],by simp only[go_sem,e7],by omega⟩
theorem aDu (h:aS p=true):p.cons.length<=1000:=by
 simp only[aS,bOx,bSi]at h;omega
end Go.Proofs.YtmnchlhngpdffaaGreat

