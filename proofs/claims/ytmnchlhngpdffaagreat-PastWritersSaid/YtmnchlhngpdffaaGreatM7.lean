/- Contracts of functions of the program and of the document: part 7. -/
import Derived.Test.YtmnchlhngpdffaaGreatM5
import Derived.Test.YtmnchlhngpdffaaGreatM2
set_option linter.all false
open Bool renaming and_eq_true → bOx, and_false → bQc, and_true → bQ2, eq_iff_iff → bRd, false_and → bPm, false_or → bPv, not_eq_true' → bQb, not_false → bPh, not_true → bPd, or_eq_true → bP3, true_and → bPr
open Int renaming eq_ofNat_of_zero_le → bP2, tdiv_eq_ediv_of_nonneg → bSh, toNat_natCast → bPz
open List renaming all_eq_true → bO4, append_nil → bPx, drop_length → bQt, getD_eq_getElem?_getD → bO2, getElem?_eq_getElem → bP7, getElem_mem → bO6, length_map → bOz, length_pos_iff → bRv, mem_append → bPn, mem_append_left → bQ9, mem_append_right → bQ0, mem_cons → bP0, mem_filter → bQi, mem_flatMap → bQa, mem_map → bPt, mem_range → bPu, nil_append → bP1, replicate_succ → bP9, replicate_zero → bP8, take_succ_cons → bO5, take_zero → bO3
open Nat renaming add_zero → bQh, div_mul_le_self → bSd, le_of_lt → bQm, le_refl → bOy, le_trans → bPb, lt_of_lt_of_le → bPo, lt_or_ge → bP4, mul_le_mul_right → bP5, zero_le → bO8
namespace Go.Proofs.YtmnchlhngpdffaaGreat
open Go.Abs Go.Proofs
set_option maxRecDepth 100000
set_option maxHeartbeats 4000000
theorem tH (p:aF)(l:cC)(hp:p.few)(hl:l.few)(hsp:aS p=true)(h:aGw p l=true):PC L 55 [.agg p.cs,.agg l.cs] ((ply p l)):=by
 have hC:=aC0 p l hp hl hsp;rw[if_pos h]at hC;have hL:=at_ Tryz.func55
 conv at hL=>rhs;reduce
 refine aG hL rfl rfl ?_
 simp only[go_sem,kK]
 refine bL ?_
 simp only[go_sem,hC.ret,(bW _).ret]
theorem tI (p:aF)(l:cC)(hp:p.few)(hl:l.few)(hsp:aS p=true)(h:aGw p l=false):PX L 55 [.agg p.cs,.agg l.cs] (rF 2):=by
 have hC:=aC0 p l hp hl hsp;rw[h,if_neg (by decide)]at hC
 have hL:=at_ Tryz.func55
 conv at hL=>rhs;reduce
 refine aAi hL rfl rfl ?_
 simp only[go_sem,kK]
 refine cK 4 rfl ?_
 simp only[go_sem,bO5,bO3,hC.ret,(cT _).ret]
variable {p:aF}{w:aA}
theorem aHz (hg:gG p w=true)(pick:Int):((dR p w pick).2.2=0/\ (zO p w pick).2.2.2=0/\ zO p w pick=fW p w pick/\ (dR p w pick).1=(fW p w pick).1/\ (dR p w pick).2.1=(fW p w pick).2.1) \/
  ((zO p w pick).2.2.2=5/\ (dR p w pick).2.2=6) \/((zO p w pick).2.2.2=8/\ (dR p w pick).2.2=8):=by
 unfold zO dR;rw[if_pos hg]
 simp only
 rcases aYz p w pick with h|h|h
 ·refine .inl ⟨?_,?_,?_,?_,?_⟩<;>simp[h]
 ·exact .inr (.inl ⟨by simp[h],by simp[h]⟩)
 ·exact .inr (.inr ⟨by simp[h],by simp[h]⟩)
theorem uY (p:aF)(l:cC)(w:aA)(pick:Int)(hp:p.few)(hw:w.few)(hsp:aS p=true)(hg:gG p w=true)(h:(dR p w pick).2.2=0):
  PC L 105 [(ply p l),.agg w.cs,.i pick] (.tup [.agg (dR p w pick).1.cs,evV (dR p w pick).2.1]):=by
 have hT:=aFr p w pick hp hw hsp;obtain⟨_,h0,e1,e2,e3⟩:(dR p w pick).2.2=0/\ (zO p w pick).2.2.2=0/\ zO p w pick=fW p w pick/\ (dR p w pick).1=(fW p w pick).1/\ (dR p w pick).2.1=(fW p w pick).2.1:=by
  rcases aHz hg pick with h'|⟨_,h'⟩|⟨_,h'⟩
  ·exact h'
  ·rw[h]at h';cases h'
  ·rw[h]at h';cases h'
 rw[h0,e1]at hT;rw[e2,e3];have hL:=at_ Tryz.func105
 conv at hL=>rhs;reduce
 refine aG hL rfl rfl ?_
 simp only[go_sem,kK]
 refine aI ?_
 simp only[go_sem,hT.ret,evV,kA,kF]
 refine bL ?_
 simp only[go_sem,(bW _).ret]
 refine bL ?_
 simp only[go_sem,(bW _).ret]
 refine aI ?_
 simp only[go_sem,kA,kF]
theorem uZ (p:aF)(l:cC)(w:aA)(pick:Int)(hp:p.few)(hw:w.few)(hsp:aS p=true)(hg:gG p w=true)(h: ¬(dR p w pick).2.2=0):
  PX L 105 [(ply p l),.agg w.cs,.i pick] (rF (dR p w pick).2.2):=by
 have hT:=aFr p w pick hp hw hsp;rcases aHz hg pick with h'|⟨h1,h2⟩|⟨h1,h2⟩
 ·exact absurd h'.1 h
 ·rw[h1]at hT;rw[h2];have hL:=at_ Tryz.func105
  conv at hL=>rhs;reduce
  refine aAi hL rfl rfl ?_
  simp only[go_sem,kK]
  refine aI ?_
  simp only[go_sem,hT.ret,evV,kA,kF]
  refine cK 2 rfl ?_
  simp only[go_sem,bO5,bO3,(cT _).ret]
 ·rw[h1]at hT;rw[h2];have hL:=at_ Tryz.func105
  conv at hL=>rhs;reduce
  refine aAi hL rfl rfl ?_
  simp only[go_sem,kK]
  refine aI ?_
  simp only[go_sem,hT.ret,evV,kA,kF]
  refine bL ?_
  simp only[go_sem,(bW _).ret]
  refine cK 3 rfl ?_
  simp only[go_sem,bO5,bO3,(cT _).ret]
theorem aA.eq_iff {a b:aA}:decide (a=b)=(decide (a.objs=b.objs)&&decide (a.tasks=b.tasks)&&decide (a.outs=b.outs)&&decide (a.ins=b.ins)&&decide (a.used=b.used)):=by
 cases a;cases b;simp[Bool.and_assoc]
def aTe (g3:Nat)(en en':En):Prop:= ∀n t g,(n≠0 \/t∉[1,2,3,5,10,24] \/(t=3/\ g<g3))->en' ⟨n,t,g⟩=en ⟨n,t,g⟩
variable {en:En}{g3:Nat}
theorem aTe.refl :aTe g3 en en:=fun _ _ _ _=>rfl
variable {e:Option Ent}{en':En}{g t:Nat}
theorem aTe.set (h:aTe g3 en en')(ht:t∈[1,2,3,5,10,24])(hg:t=3->g3<=g):aTe g3 en (en'.set ⟨0,t,g⟩ e):=by
 intro n u g' k;rw[pZ,h n u g' k];intro he
 injection he with h1 h2 h3
 subst h1 h2 h3;rcases k with k|k|k
 ·exact k rfl
 ·exact k ht
 ·have:=hg k.1;omega
theorem aTe.step {en2:En}(h:aTe g3 en en')(k: ∀n t g,n≠0 \/(t≠24/\ t∉[24])->en2 ⟨n,t,g⟩=en' ⟨n,t,g⟩):aTe g3 en en2:=fun n t g q=>by
 rw[k n t g,h n t g q];rcases q with q|q|q
 ·exact .inl q
 ·exact .inr ⟨fun e=>q (by simp[e]),fun e=>q (by simp at e;simp[e])⟩
 ·exact .inr ⟨by omega,by simp;omega⟩
theorem aC1 (p:aF)(l:cC)(a b:Int):PC L 65 [(ply p l),.i a,.i b] (.fn 118 [] [.fp [.i a] 0,.fp [.i b] 0,.fp [(ply p l)] 0]):=by
 have hL:=at_ Tryz.func65
 conv at hL=>rhs;reduce
 refine aG hL rfl rfl ?_
 simp only[go_sem,kK,kF]
theorem bHf :dN .eql .iface .nili .nili=some (.bool true):=(rfl)
theorem bHg {v:Val}:dN .eql .iface (.ifc t v) .nili=some (.bool false):=(rfl)
variable {k:Key}
theorem aY0 {a b:Option Ent}:(en.set k a).set k b=en.set k b:=by
 funext j
 by_cases h:j=k<;>simp[En.set,h]
variable {K:St->Prop}{cnt:Nat->Nat->Nat}{f x:Val}{fr:Nat->Val}
theorem lG {e:Ex}(he:e.rcvd=some .nili)(hK:K ⟨fr,en,cnt⟩):
  ∃st4,(∃n0,∀n,n0<=n->iB L (exec L n) (.fn 53 [] []) [x,f] e ⟨fr,en,cnt⟩=some st4)/\ K st4:=by
 have hL:=at_ Tryz.func53
 conv at hL=>rhs;reduce
 refine sZ hL rfl he rfl rfl ?_
 simp only[go_sem,kK,bP1,bPx,bHf,kF];exact hK
theorem cD {e:Ex}{n:Int}(he:e.rcvd=some (rF n))
  (hf:WIn L f [] (en.set ⟨0,5,cnt 0 5⟩ (some (.box [.i n] false))) (aC cnt 0 5 (cnt 0 5+1)) fun _ en' cnt'=>en' k=some (.box [x] false)/\ en' ⟨0,5,cnt 0 5⟩=some (.box [.i n] false)/\ K ⟨fr,en'.set k (some (.box [.i n] false)),cnt'⟩):
  ∃st4,(∃n0,∀n,n0<=n->iB L (exec L n) (.fn 53 [] []) [.ptr k 0,f] e ⟨fr,en,cnt⟩=some st4)/\ K st4:=by
 have hL:=at_ Tryz.func53
 conv at hL=>rhs;reduce
 refine sZ hL rfl he rfl rfl ?_
 simp only[go_sem,kK,rF,bP1,bPx,bHg,kF,if_true];rw[aY0]
 refine WIn.mono hf ?_
 rintro v e2 c2 ⟨k1,k2,hk⟩
 simp only[go_sem,k1,k2];exact hk
variable {t1 t2 t3 t4:Nat}
structure oE (l:cC):Prop where
 e1:1<=aP l
 e2:aP l<=20
 ev:l.every=(aP l:Int)
 pk:l.picks.length<=200
 mn:l.marks.length=l.picks.length/aP l+1
variable {l:cC}
theorem oE.of (h:fY p l=true):oE l:=let ⟨_,⟨a,b,c⟩,d,e,_⟩:=pN h;⟨a,b,c,d,e⟩
variable {n:Nat}
theorem oE.lt (h:oE l)(hn:n<=l.picks.length):n/aP l<l.marks.length:=by
 rw[h.mn];have:=Nat.div_le_div_right (c:=aP l) hn;omega
theorem oE.div (h:oE l)(n:Nat):((n:Int)).tdiv (aP l:Int)=((n/aP l:Nat):Int):=by
 rw[bSh (by omega)];rfl
theorem oE.few (h:oE l):Few l.picks.length:=by have:=h.pk;unfold Few;omega
theorem oE.wdiv (h:oE l)(hn:n<=l.picks.length):IntKind.i64.wrap (((n/aP l:Nat):Int))=((n/aP l:Nat):Int):=by
 have h1:=Nat.div_le_self n (aP l);have:=h.pk;generalize n/aP l=q at h1⊢;exact aW (by omega)
theorem oE.mul (h:oE l)(hn:n<=l.picks.length):IntKind.i64.wrap (((n/aP l:Nat):Int)*(aP l:Int))=((n/aP l*aP l:Nat):Int):=by
 have h1:=bSd n (aP l);have:=h.pk;rw[<-Int.natCast_mul];generalize n/aP l*aP l=q at h1⊢;exact aW (by omega)
theorem oE.ne (h:oE l):((aP l:Int)=0)=False:=eq_false (by have:=h.e1;omega)
theorem nF {k:Nat}(h:k<l.marks.length):zA l k=l.marks[k]:=by simp[zA,h]
theorem aVq (hl:oE l)(hn:n<=l.picks.length)(hm:n%aP l=0):PC L 63 [.fp [.i l.every,.is l.picks,.fz (l.marks.map aA.enc),.fz (p.nodes.map aJ.enc),.fz (p.funs.map (.int .i64)),.i p.main,.fz (p.cons.map cO.enc)] 0,.i (n:Int)] (.agg (zA l (n/aP l)).cs):=by
 have hlt:=hl.lt hn;have hia:=fun en=>sV (l:=l) (en:=en) hlt
 have hnn:n/aP l*aP l=n:=Nat.div_mul_cancel (Nat.dvd_of_mod_eq_zero hm);have hmul:=hl.mul hn;rw[hnn]at hmul;have ht:=aC1 p l n n;rw[nF hlt];simp only[ply,hl.ev]at ht⊢;have hL:=at_ Tryz.func63
 conv at hL=>rhs;reduce
 refine aG hL rfl rfl ?_
 simp only[go_sem,kK,hl.ne,hl.div,hl.wdiv hn,hmul,kF]
 refine aI ?_
 simp only[go_sem,hl.ne,hl.div,hl.wdiv hn,hia,kA,kF];simp only[go_sem,ht.ret]
 refine uC (by simp only[go_sem];rfl) ?_
 rintro fr0 k hf hk
 rw[aUq]at hk;subst hk
 refine bD bAv rfl rfl ?_
 simp only[go_sem,kK,aR0,decide_eq_true (bOy n),kF]
 done
def aLo (w x:aA)(e:lV):Val:= .agg [.fz (w.objs.map aR.enc),.is w.tasks,.fz (w.outs.map bR.enc),.is w.ins,.i w.used,.fz (x.objs.map aR.enc),.is x.tasks,.fz (x.outs.map bR.enc),.is x.ins,.i x.used,.i e.task,.i e.act,.i e.n,.i e.v.kind,.i e.v.n]
def zP (p:aF)(l:cC)(t:Nat):Val:=aLo (atX p l t).1 (aZ p l t).1 (aZ p l t).2.1
def T3 :List Nat:=[5,7,8]
def aVr (c0:Nat->Nat)(en en':En):Prop:= ∀n t g,(n≠0 \/t∉T3 \/g<c0 t)->en' ⟨n,t,g⟩=en ⟨n,t,g⟩
variable {c0:Nat->Nat}
theorem aVr.trans {x y z:En}(h:aVr c0 x y)(h':aVr c0 y z):aVr c0 x z:=fun n t g k=>(h' n t g k).trans (h n t g k)
def bCd (c0:Nat->Nat)(I:En->(Nat->Nat->Nat)->Prop):Prop:= ∀en cnt en' cnt',I en cnt->aVr c0 en en'->(∀n t,n≠0 \/t∉T3->cnt' n t=cnt n t)->(∀t∈T3,cnt 0 t<=cnt' 0 t)->I en' cnt'
theorem vY (ht:t∈T3)(hg:c0 t<=g):aVr c0 en (en.set ⟨0,t,g⟩ e):=by
 intro n u g' h
 refine pZ fun he=>?_
 injection he with h1 h2 h3
 rcases h with h|h|h
 ·exact h h1
 ·exact h (h2▸ht)
 ·subst h2;omega
theorem qO (h:(aZ p l t).2.2=0):(atX p l t).2=0/\ (dR p (atX p l t).1 (iL l t)).2.2=0/\ aZ p l t=dR p (atX p l t).1 (iL l t):=by
 unfold aZ at h⊢
 by_cases h1:(atX p l t).2=0
 ·rw[if_pos h1]at h⊢
  by_cases h2:(dR p (atX p l t).1 (iL l t)).2.2=0
  ·rw[if_pos h2];exact⟨h1,h2,rfl⟩
  ·rw[if_neg h2]at h;exact absurd h h2
 ·rw[if_neg h1]at h;exact absurd h h1
theorem aN3 (h1:(atX p l t).2=0)(h: ¬(aZ p l t).2.2=0): ¬(dR p (atX p l t).1 (iL l t)).2.2=0/\ (aZ p l t).2.2=(dR p (atX p l t).1 (iL l t)).2.2:=by
 unfold aZ at h⊢;rw[if_pos h1]at h⊢
 by_cases h2:(dR p (atX p l t).1 (iL l t)).2.2=0
 ·rw[if_pos h2]at h;exact absurd h2 h
 ·rw[if_neg h2];exact⟨h2,rfl⟩
theorem aTg (h1: ¬(atX p l t).2=0):(aZ p l t).2.2=(atX p l t).2:=by unfold aZ;rw[if_neg h1]
theorem aIu (hl:oE l)(h:(aZ p l t).2.2=0):(atX p l (t+1)).2=0/\ ((t+1)%aP l=0 \/(atX p l (t+1)).1=(aZ p l t).1):=by
 obtain⟨h1,h2,h3⟩:=qO h
 by_cases hm:(t+1)%aP l=0
 ·rw[oL hl.e1 hm];exact⟨rfl,.inl hm⟩
 ·rw[aFq hl.e1 hm,if_pos h1,if_pos h2,h3];exact⟨rfl,.inr rfl⟩
theorem oM (h:t<l.picks.length):iL l t=l.picks[t]:=by simp[iL,h]
theorem oN (h:fY p l=true)(hn:n<=l.picks.length)(he:(atX p l n).2=0):gG p (atX p l n).1=true:=by
 have h1:=(pN h).1;have:=aVk (pL h1) h hn he;simp[gG,h1,this]
theorem sA (hsp:aS p=true)(h:gG p w=true):w.few:=by
 simp only[gG,bOx]at h;exact aB7 (rV hsp h.2)
variable {u:Nat}
theorem bNh {a b:Nat}(h:n≠0 \/u∉T3):aC (aC cnt 0 7 a) 0 8 b n u=cnt n u:=by
 simp only[aC];rw[if_neg,if_neg]
 ·rintro⟨rfl,rfl⟩;rcases h with h|h
  ·exact h rfl
  ·exact h (by decide)
 ·rintro⟨rfl,rfl⟩;rcases h with h|h
  ·exact h rfl
  ·exact h (by decide)
theorem aIv :cnt 0 u<=aC (aC cnt 0 7 (cnt 0 7+1)) 0 8 (cnt 0 8+1) 0 u:=by
 simp only[aC];split
 ·rename_i h;obtain⟨_,rfl⟩:=h;omega
 split
 ·rename_i h;obtain⟨_,rfl⟩:=h;omega
 ·exact bOy _
theorem bCe (hpf:p.few)(hsp:aS p=true)(hok:fY p l=true){a b s:Nat}(has:a<=s)(hsb:s<=b)(hb:b<=l.picks.length)
  (hat:(atX p l a).2=0->PC L 63 [(ply p l),.i (a:Int)] (.agg (atX p l a).1.cs)) (hax: ¬(atX p l a).2=0->PX L 63 [(ply p l),.i (a:Int)] (rF (atX p l a).2))
  {k:Key} {c0:Nat->Nat} {I:Nat->En->(Nat->Nat->Nat)->Prop} {R:Ex->St->Prop} (hst: ∀t,bCd c0 (I t))
  (hr: ∀t,a<=t->t<s->(aZ p l t).2.2=0/\ ∀en cnt,I t en cnt->(∀u∈T3,c0 u<=cnt 0 u)->WIn L (.yld k) [.i (t:Int),zP p l t] en cnt fun v en' cnt'=>v= .bool true/\ I (t+1) en' cnt'/\ (∀u g,u∈T3->g<cnt 0 u->c0 u<=g->en' ⟨0,u,g⟩=en ⟨0,u,g⟩)/\ ∀u∈T3,cnt 0 u<=cnt' 0 u)
  (hfin: ∀en cnt,I s en cnt->(∀u∈T3,c0 u<=cnt 0 u)->(s=b/\ ∀e fr,e= .normal \/e= .ret->R e ⟨fr,en,cnt⟩) \/
   (s<b/\ (aZ p l s).2.2=0/\ WIn L (.yld k) [.i (s:Int),zP p l s] en cnt fun v en' cnt'=>v= .bool false/\ ∀fr,R .ret ⟨fr,en',cnt'⟩) \/
   (s<b/\ ¬(aZ p l s).2.2=0/\ ∀fr,R (.panic (rF (aZ p l s).2.2)) ⟨fr,en,cnt⟩))
  {en:En} {cnt:Nat->Nat->Nat} (h0:I a en cnt) (hc0: ∀u∈T3,c0 u<=cnt 0 u):
  Wp L aR0.body ⟨fun i=>[.yld k,.fp [.i (a:Int)] 0,.fp [.i (b:Int)] 0,.fp [(ply p l)] 0].getD i (.tup []),en,cnt⟩ R:=by
 have hl:=oE.of hok;simp only[go_sem,kK,aR0]
 by_cases hab:b<=a
 ·have:s=b:=by omega
  subst this;have:a=s:=by omega
  subst this;rcases hfin _ _ h0 hc0 with⟨_,h⟩|⟨h,_⟩|⟨h,_⟩
  ·simp only[go_sem,decide_eq_true hab];exact h _ _ (.inr rfl)
  ·omega
  ·omega
 simp only[go_sem,decide_eq_false hab]
 by_cases ha0:(atX p l a).2=0
 case neg=>
  have hs:s=a:=by
   rcases bP4 a s with h|h
   ·exact absurd (qO (hr a (bOy _) h).1).1 ha0
   ·omega
  subst hs;rcases hfin _ _ h0 hc0 with⟨h,_⟩|⟨_,h,_⟩|⟨_,_,h⟩
  ·omega
  ·exact absurd (qO h).1 ha0
  ·rw[aTg ha0]at h
   refine cK 2 rfl ?_
   simp only[go_sem,bO5,bO3,(hax ha0).ret];exact h _
 refine bL ?_
 simp only[go_sem,(hat ha0).ret,kF];obtain⟨g5,hg5⟩: ∃g,g=cnt 0 5:=⟨_,rfl⟩
 rw[<-hg5];have hc5:c0 5<=g5:=by rw[hg5];exact hc0 5 (by decide)
 refine bQ s (fun t st=> ∃fr en cnt w,st=⟨fr,en,cnt⟩/\ fr 0= .yld k/\ fr 1= .fp [.i (a:Int)] 0/\ fr 2= .fp [.i (b:Int)] 0/\ fr 3= .fp [(ply p l)] 0/\ fr 5= .ptr ⟨0,5,g5⟩ 0/\ fr 6= .i (t:Int)/\ en ⟨0,5,g5⟩=some (.box w.cs false)/\ (t%aP l=0 \/w=(atX p l t).1)/\ (atX p l t).2=0/\ I t en cnt/\ g5<cnt 0 5/\ a<=t/\ ∀u∈T3,c0 u<=cnt 0 u) a has ?_ ?_
 ·refine⟨_,_,_,(atX p l a).1,rfl,by simp only[go_sem],by simp only[go_sem],by simp only[go_sem],by simp only[go_sem],by simp only[go_sem],by simp only[go_sem],by simp only[go_sem],.inr rfl,ha0,?_,?_,bOy _,?_⟩
  ·refine hst a _ _ _ _ h0 ((vY (by decide) (by omega)).trans (vY (by decide) (by omega))) (fun n t h=>?_) (fun u hu=>?_)
   ·simp only[aC];split
    ·rename_i h';obtain⟨rfl,rfl⟩:=h';rcases h with h|h
     ·exact absurd rfl h
     ·exact absurd (by decide) h
    ·rfl
   ·simp only[aC];split
    ·rename_i h';obtain⟨_,rfl⟩:=h';omega
    ·exact bOy _
  ·simp only[aC];simp
  ·intro u hu;have:=hc0 u hu;simp only[aC];split
   ·rename_i h';obtain⟨_,rfl⟩:=h';omega
   ·exact this
 rintro t st hts ⟨fr,en,cnt,w,rfl,f0,f1,f2,f3,f5,f6,e5,hw,h0t,hI,hg,hta,hc⟩
 simp only[go_sem,kK,f6,f2]
 by_cases htb:t<b
 case neg=>
  have:s=b:=by omega
  subst this;have:t=s:=by omega
  subst this;simp only[go_sem,decide_eq_false htb];rcases hfin _ _ hI hc with⟨_,h⟩|⟨h,_⟩|⟨h,_⟩
  ·exact h _ _ (.inl rfl)
  ·omega
  ·omega
 have htp:t<l.picks.length:=by omega
 have hmk:=aNy (p:=p) (l:=l) t hl.e1 (by have:=hl.pk;omega) hl.ev
 have hgv:=oN hok (bQm htp) h0t;obtain⟨y,hy⟩: ∃y,y=(atX p l t).1:=⟨_,rfl⟩
 rw[<-hy]at hw hgv
 by_cases hm:t%aP l=0
 case' pos=>
  have hlt:=hl.lt (bQm htp);have hia:=fun en=>sV (l:=l) (en:=en) hlt
  have hwm:l.marks[t/aP l]=y:=by rw[hy,oL hl.e1 hm,nF hlt]
  simp only[go_sem,kK,decide_eq_true htb,f3,f6,hmk.ret,decide_eq_true hm];simp only[go_sem,f5,hl.ev,hl.ne,hl.div,hl.wdiv (bQm htp),hia,hwm,e5,kF];have e6:(en.set ⟨0,5,g5⟩ (some (.box y.cs false))) ⟨0,5,g5⟩=some (.box y.cs false):=by simp only[go_sem]
  have hI2:=hst t _ cnt _ cnt hI (vY (e:=some (.box y.cs false)) (t:=5) (g:=g5) (by decide) (by omega)) (fun _ _ _=>rfl) (fun _ _=>bOy _)
  generalize En.set en _ _=en1 at e6 hI2⊢
 case' neg=>
  simp only[go_sem,kK,decide_eq_true htb,f3,f6,hmk.ret,decide_eq_false hm];have e6:=e5;rw[hw.resolve_left hm]at e6;have hI2:=hI;generalize en=en1 at e6 hI2⊢
 all_goals
  clear e5 hI hw
  by_cases hk:(aZ p l t).2.2=0
  case neg=>
   obtain⟨hb1,hb2⟩:=aN3 h0t hk;rw[<-hy]at hb1 hb2;have hT:=uZ p l y (iL l t) hpf (sA hsp hgv) hsp hgv hb1;rw[<-hb2,oM htp]at hT;have:t=s:=by
    rcases bP4 t s with h|h
    ·exact absurd (hr t hta h).1 hk
    ·omega
   subst this
   refine jW 10 rfl rfl ?_
   simp only[go_sem,bO5,bO3,bP9,bP8,qP,f3,f5,f6,e6,htp,hT.ret,kA,kF]
   refine⟨rfl,?_⟩
   rcases hfin _ _ hI2 hc with⟨h,_⟩|⟨_,h,_⟩|⟨_,_,h⟩
   ·omega
   ·exact absurd h hk
   ·exact h _
  obtain⟨_,ht0,hta'⟩:=qO hk;rw[<-hy]at ht0 hta';have hT:=uY p l y (iL l t) hpf (sA hsp hgv) hsp hgv ht0;rw[<-hta',oM htp]at hT;obtain⟨x,hx⟩: ∃x,x=(aZ p l t).1:=⟨_,rfl⟩
  obtain⟨e,he⟩: ∃e,e=(aZ p l t).2.1:=⟨_,rfl⟩
  rw[<-hx,<-he]at hT
  refine iU ?_
  simp only[go_sem,f0,f3,f5,f6,e6,htp,hT.ret,evV,kA,kF];have hc7:=hc 7 (by decide)
  have hc8:=hc 8 (by decide)
  generalize hE:En.set (En.set (En.set (En.set en1 _ _) _ _) _ _) _ _=E;have ho:aVr c0 en1 E:=by rw[<-hE];exact(((vY (by decide) hc7).trans (vY (by decide) hc8)).trans (vY (by decide) hc7)).trans (vY (by decide) hc8)
  have E5:E ⟨0,5,g5⟩=some (.box y.cs false):=by rw[<-hE];simp only[go_sem,e6]
  have E7:E ⟨0,7,cnt 0 7⟩=some (.box [.fz (x.objs.map aR.enc),.is x.tasks,.fz (x.outs.map bR.enc),.is x.ins,.i x.used] false):=by rw[<-hE];simp only[go_sem]
  have hI3:=hst t _ _ E (aC (aC cnt 0 7 (cnt 0 7+1)) 0 8 (cnt 0 8+1)) hI2 ho (fun n u h=>bNh h) (fun u _=>aIv)
  have hc3: ∀u∈T3,c0 u<=aC (aC cnt 0 7 (cnt 0 7+1)) 0 8 (cnt 0 8+1) 0 u:=fun u hu=>bPb (hc u hu) aIv
  have hd:zP p l t=aLo y x e:=by rw[zP,hy,hx,he]
  rcases bP4 t s with hlt|hge
  ·have hrt:=(hr t hta hlt).2 _ _ hI3 hc3;rw[hd]at hrt
   refine WIn.mono hrt ?_
   rintro v en' cnt' ⟨rfl,hI4,hin,hcc⟩
   have q5:=(hin 5 g5 (by decide) (bPo hg aIv) hc5).trans E5
   have q7:=(hin 7 (cnt 0 7) (by decide) (by simp[aC]) hc7).trans E7
   obtain⟨hn0,hn1⟩:=aIu hl hk;have hx1:(t+1)%aP l=0 \/x=(atX p l (t+1)).1:=hn1.imp_right fun h=>by rw[hx,h]
   simp only[go_sem,kK,f5,f6,q5,q7,bPd]
   refine⟨hlt,_,_,_,x,rfl,?_⟩
   simp only[go_sem,f0,f1,f2,f3,f5,aT htp hl.few,hl.ev];exact⟨hx1,hn0,hst _ _ _ _ _ hI4 (vY (by decide) hc5) (fun _ _ _=>rfl) (fun _ _=>bOy _),bPo hg (bPb aIv (hcc 5 (by decide))),by omega,fun u hu=>bPb (hc3 u hu) (hcc u hu)⟩
  ·have:t=s:=by omega
   subst this;rcases hfin _ _ hI3 hc3 with⟨h,_⟩|⟨_,_,hrt⟩|⟨_,h,_⟩
   ·omega
   ·rw[hd]at hrt
    refine WIn.mono hrt ?_
    rintro v en' cnt' ⟨rfl,hR⟩
    simp only[go_sem,kK,bPh];exact hR _
   ·exact absurd hk h
theorem aTh {e m:Nat}(he:1<=e)(h: ¬(m+1)%e=0):(m+1)/e=m/e:=by
 rw[Nat.succ_div,if_neg (fun h'=>h (Nat.mod_eq_zero_of_dvd h')),bQh]
theorem aGx {e:Nat}(h:n%e=0):n/e*e=n:=Nat.div_mul_cancel (Nat.dvd_of_mod_eq_zero h)
theorem aP7 {p:aF}{l:cC}(hl:oE l): ∀n,(atX p l n).2=0-> ∀t,n/aP l*aP l<=t->t<n->(aZ p l t).2.2=0
 |0,_,t,_,h=>by omega
 |m+1,h0,t,h1,h2=>by
  by_cases hm:(m+1)%aP l=0
  ·rw[aGx hm]at h1;omega
  ·rw[aFq hl.e1 hm]at h0
   by_cases ha:(atX p l m).2=0
   ·rw[if_pos ha]at h0
    by_cases ht:(dR p (atX p l m).1 (iL l m)).2.2=0
    ·rcases bP4 t m with h|h
     ·exact aP7 hl m ha t (by rw[<-aTh hl.e1 hm];exact h1) h
     ·obtain rfl:t=m:=by omega
      unfold aZ;rw[if_pos ha,if_pos ht];exact ht
    ·rw[if_neg ht]at h0;exact absurd h0 ht
   ·rw[if_neg ha]at h0;exact absurd h0 ha
theorem aP8 {p:aF}{l:cC}(hl:oE l): ∀n,¬(atX p l n).2=0-> ∃s,n/aP l*aP l<=s/\ s<n/\ (∀t,n/aP l*aP l<=t->t<s->(aZ p l t).2.2=0)/\ ¬(aZ p l s).2.2=0/\ (aZ p l s).2.2=(atX p l n).2
 |0,h=>by rw[oL hl.e1 (Nat.zero_mod _)]at h;exact absurd rfl h
 |m+1,h0=>by
  by_cases hm:(m+1)%aP l=0
  ·rw[oL hl.e1 hm]at h0;exact absurd rfl h0
  ·have hd:=aTh hl.e1 hm;have hle:=bSd m (aP l);rw[hd];have hs:=aFq (p:=p) hl.e1 hm;rw[hs]at h0⊢
   by_cases ha:(atX p l m).2=0
   ·rw[if_pos ha]at h0⊢
    by_cases ht:(dR p (atX p l m).1 (iL l m)).2.2=0
    ·rw[if_pos ht]at h0;exact absurd rfl h0
    ·rw[if_neg ht]at h0⊢;have hk:(aZ p l m).2.2=(dR p (atX p l m).1 (iL l m)).2.2:=by unfold aZ;rw[if_pos ha,if_neg ht]
     exact⟨m,hle,by omega,aP7 hl m ha,by rw[hk];exact ht,hk⟩
   ·rw[if_neg ha]at h0⊢;obtain⟨s,h1,h2,h3,h4,h5⟩:=aP8 hl m ha;exact⟨s,h1,by omega,h3,h4,h5⟩
def AtI (p:aF)(l:cC)(fr0:Nat->Val)(t:Nat)(en:En)(_:Nat->Nat->Nat):Prop:=
 (∃fr1,en ⟨1,0,0⟩=some (.loop fr1 [40,41] (bB.ops [o 8 (.alloc [.cl [],.cl [],.cl [],.cl [],.i 0,.cl [],.cl [],.cl [],.cl [],.i 0,.i 0,.i 0,.i 0,.i 0,.i 0]),sT 15 8 41]) (bB.block 1 (.ops [fA 42 5 8,lT 43 5 42,sT 5 6 43])) .ready)/\ fr1 6=fr0 6)/\ en ⟨0,4,0⟩=some (.box [.cl [],.cl [],.cl [],.cl [],.i 0] false)/\ ∃w,en ⟨0,6,0⟩=some (.box [.fz (w.objs.map aR.enc),.is w.tasks,.fz (w.outs.map bR.enc),.is w.ins,.i w.used] false)/\ w=(atX p l t).1
variable {fr0:Nat->Val}
theorem bCf (t:Nat):bCd (fun _=>0) (AtI p l fr0 t):=by
 rintro en cnt en' cnt' ⟨⟨fr1,h1,hf⟩,h2,w,h3,h4⟩ ho _ _
 exact⟨⟨fr1,(ho 1 0 0 (.inl (by decide))).trans h1,hf⟩,(ho 0 4 0 (.inr (.inl (by decide)))).trans h2,w,(ho 0 6 0 (.inr (.inl (by decide)))).trans h3,h4⟩
theorem bCg (hf:fr0 6= .ptr ⟨0,6,0⟩ 0)(hn:(atX p l (t+1)).1=(aZ p l t).1)(hI:AtI p l fr0 t en cnt):
  WIn L (.yld ⟨1,0,0⟩) [.i (t:Int),zP p l t] en cnt fun v en' cnt'=>v= .bool true/\ AtI p l fr0 (t+1) en' cnt'/\ (∀u g,u∈T3->g<cnt 0 u->0<=g->en' ⟨0,u,g⟩=en ⟨0,u,g⟩)/\ ∀u∈T3,cnt 0 u<=cnt' 0 u:=by
 obtain⟨⟨fr1,h1,hf1⟩,h2,w,h3,h4⟩:=hI;rw[hf]at hf1
 refine aIm (fr:=fr1) (ps:=[40,41]) (a:=(bB.ops [o 8 (.alloc [.cl [],.cl [],.cl [],.cl [],.i 0,.cl [],.cl [],.cl [],.cl [],.i 0,.i 0,.i 0,.i 0,.i 0,.i 0]),sT 15 8 41])) (b:=(bB.block 1 (.ops [fA 42 5 8,lT 43 5 42,sT 5 6 43]))) h1 rfl ?_
 simp only[go_sem,zP,aLo,hf1,h1,h3]
 refine⟨⟨⟨_,by simp only[go_sem];rfl,?_⟩,by simp only[go_sem,h2],_,by simp only[go_sem],hn.symm⟩,fun u g hu hg _=>?_,fun u hu=>?_⟩
 ·simp only[go_sem,hf,hf1]
 ·simp only[T3,bP0,List.not_mem_nil,or_false]at hu;rcases hu with rfl|rfl|rfl
  ·simp only[go_sem]
  ·simp only[go_sem]
  ·simp only[go_sem,show¬g=cnt 0 8 by omega]
 ·simp only[aC];split
  ·rename_i h;obtain⟨_,rfl⟩:=h;omega
  ·exact bOy _
theorem aP9 (hpf:p.few)(hsp:aS p=true)(hok:fY p l=true)(hn:n<=l.picks.length):
  ((atX p l n).2=0->PC L 63 [.fp [.i l.every,.is l.picks,.fz (l.marks.map aA.enc),.fz (p.nodes.map aJ.enc),.fz (p.funs.map (.int .i64)),.i p.main,.fz (p.cons.map cO.enc)] 0,.i (n:Int)] (.agg (atX p l n).1.cs))/\ (¬(atX p l n).2=0->PX L 63 [.fp [.i l.every,.is l.picks,.fz (l.marks.map aA.enc),.fz (p.nodes.map aJ.enc),.fz (p.funs.map (.int .i64)),.i p.main,.fz (p.cons.map cO.enc)] 0,.i (n:Int)] (rF (atX p l n).2)):=by
 have hl:=oE.of hok;obtain⟨a,ha⟩: ∃a,a=n/aP l*aP l:=⟨_,rfl⟩
 have han:a<=n:=by rw[ha];exact bSd ..
 have hma:a%aP l=0:=by rw[ha];exact Nat.mul_mod_left ..
 have hlt:=hl.lt hn;have hia:=fun en=>sV (l:=l) (en:=en) hlt
 have hmul:=hl.mul hn;rw[<-ha]at hmul;have ht:=aC1 p l a n;have hda:a/aP l=n/aP l:=by rw[ha];exact Nat.mul_div_cancel _ (by have:=hl.e1;omega)
 have hma0:=oL (p:=p) hl.e1 hma;have hat:=aVq (p:=p) hl (bPb han hn) hma;rw[hda]at hma0 hat;rw[nF hlt]at hma0 hat;have hmw:l.marks[n/aP l]=(atX p l a).1:=by rw[hma0]
 have hnx: ∀t,a<=t->t<n->(aZ p l t).2.2=0->(atX p l (t+1)).1=(aZ p l t).1:=fun t h1 h2 h0=>by
  rcases(aIu hl h0).2 with h|h
  ·exfalso
   have h3:(t+1)/aP l*aP l=t+1:=aGx h;have h4:(t+1)/aP l<=n/aP l:=Nat.div_le_div_right h2;have h5:=bP5 (aP l) h4;rw[h3,<-ha]at h5;omega
  ·exact h
 rw[hmw]at hat hia;have hT:=fun fr0 (hf:fr0 6= .ptr ⟨0,6,0⟩ 0) R s (h1:a<=s) (h2:s<=n) (h3: ∀t,a<=t->t<s->(aZ p l t).2.2=0)=>bCe (R:=R) (k:=⟨1,0,0⟩) (c0:=fun _=>0) (I:=AtI p l fr0) hpf hsp hok h1 h2 hn (fun _=>hat) (fun h=>absurd (by rw[hma0]) h) bCf
  (fun t q1 q2=>⟨h3 t q1 q2,fun en cnt hI _=>bCg hf (hnx t q1 (bPo q2 h2) (h3 t q1 q2)) hI⟩)
 simp only[ply,hl.ev]at ht hat hT⊢
 refine⟨fun h0=>?_,fun h0=>?_⟩
 ·have hL:=at_ Tryz.func63
  conv at hL=>rhs;reduce
  refine aG hL rfl rfl ?_
  simp only[go_sem,kK,hl.ne,hl.div,hl.wdiv hn,hmul,kF]
  refine aI ?_
  simp only[go_sem,hl.ne,hl.div,hl.wdiv hn,hia,kA,kF];simp only[go_sem,ht.ret]
  refine uC (by simp only[go_sem];rfl) ?_
  rintro fr0 k hf hk
  obtain rfl:k=⟨1,0,0⟩:=hk
  refine bD bAv rfl rfl ?_
  refine hT fr0 (by rw[hf];simp only[go_sem]) _ n han (bOy n) (fun t h1 h2=>aP7 hl n h0 t (by rw[<-ha];exact h1) h2) (fun en cnt hI _=> .inl ⟨rfl,fun e fr he=>?_⟩) ?_ (fun _ _=>bO8 _)
  ·obtain⟨⟨fr1,i1,_⟩,i4,w,i6,rfl⟩:=hI
   refine⟨by rcases he with rfl|rfl<;>rfl,?_⟩
   simp only[go_sem,aR0,i1,i4,i6]
  ·refine⟨⟨_,by simp only[go_sem],rfl⟩,by simp only[go_sem],_,by simp only[go_sem],rfl⟩
 ·obtain⟨s,h1,h2,h3,h4,h5⟩:=aP8 hl n h0;rw[<-ha]at h1 h3;have hL:=at_ Tryz.func63
  conv at hL=>rhs;reduce
  refine aAi hL rfl rfl ?_
  simp only[go_sem,kK,hl.ne,hl.div,hl.wdiv hn,hmul,kF]
  refine aI ?_
  simp only[go_sem,hl.ne,hl.div,hl.wdiv hn,hia,kA,kF];simp only[go_sem,ht.ret]
  refine aGf (by simp only[go_sem];rfl) ?_
  rintro fr0 k hf hk
  obtain rfl:k=⟨1,0,0⟩:=hk
  refine cA bAv rfl rfl ?_
  refine hT fr0 (by rw[hf];simp only[go_sem]) _ s h1 (bQm h2) h3 (fun en cnt hI _=> .inr (.inr ⟨h2,h4,fun fr=>?_⟩)) ?_ (fun _ _=>bO8 _)
  ·rw[h5]
   done
  ·refine⟨⟨_,by simp only[go_sem],rfl⟩,by simp only[go_sem],_,by simp only[go_sem],rfl⟩
theorem aTi (hpf:p.few)(hsp:aS p=true)(hok:fY p l=true)(ht:t<l.picks.length):
  ((aZ p l t).2.2=0->PC L 67 [(ply p l),.i (t:Int)] (zP p l t))/\ (¬(aZ p l t).2.2=0->PX L 67 [(ply p l),.i (t:Int)] (rF (aZ p l t).2.2)):=by
 have hl:=oE.of hok;obtain⟨ha1,ha2⟩:=aP9 hpf hsp hok (bQm ht)
 refine⟨fun h0=>?_,fun h0=>?_⟩
 ·obtain⟨h1,h2,h3⟩:=qO h0;have hgv:=oN hok (bQm ht) h1;have hT:=uY p l (atX p l t).1 (iL l t) hpf (sA hsp hgv) hsp hgv h2;rw[<-h3,oM ht]at hT;have hL:=at_ Tryz.func67
  conv at hL=>rhs;reduce
  refine aG hL rfl rfl ?_
  simp only[go_sem,kK]
  refine bL ?_
  simp only[go_sem,(ha1 h1).ret,kF]
  refine iU ?_
  simp only[go_sem,ht,hT.ret,evV,kA,kF];simp only[go_sem,zP,aLo]
 ·have hL:=at_ Tryz.func67
  conv at hL=>rhs;reduce
  refine aAi hL rfl rfl ?_
  simp only[go_sem,kK]
  by_cases h1:(atX p l t).2=0
  ·obtain⟨h2,h3⟩:=aN3 h1 h0;have hgv:=oN hok (bQm ht) h1;have hT:=uZ p l (atX p l t).1 (iL l t) hpf (sA hsp hgv) hsp hgv h2;rw[<-h3,oM ht]at hT
   refine bL ?_
   simp only[go_sem,(ha1 h1).ret,kF]
   refine jW 10 rfl rfl ?_
   simp only[go_sem,bO5,bO3,bP9,bP8,qP,ht,hT.ret,kA,kF];rfl
  ·rw[aTg h1]
   refine cK 2 rfl ?_
   simp only[go_sem,bO5,bO3,(ha2 h1).ret]
theorem oR (p:aF)(l:cC):aGw p l=fY p l:=by
 rw[bRd];simp only[aGw,fY,gG,inR,aP,bOx,bQb,Bool.or_eq_false_iff,Bool.not_eq_false',bSi,bSj,bO4];constructor
 ·rintro⟨⟨⟨⟨h1,h2⟩,h3⟩,h4⟩,h5⟩
  have hd:(l.marks.length:Int)=((l.picks.length/l.every.toNat+1:Nat):Int):=by
   rw[h4,bSh (by omega)]
   have:l.every=(l.every.toNat:Int):=by omega
   rw[this];rfl
  have hl:l.marks.length=l.picks.length/l.every.toNat+1:=by exact_mod_cast hd
  have hne:l.marks≠[]:=by intro h;rw[h]at hl;simp at hl
  obtain⟨w,hw⟩:=List.exists_mem_of_ne_nil _ hne;exact⟨⟨⟨⟨(h5 w hw).1,by omega⟩,by omega⟩,decide_eq_true hl⟩,fun w hw=>(h5 w hw).2⟩
 ·rintro⟨⟨⟨⟨h1,h2⟩,h3⟩,h4⟩,h5⟩
  refine⟨⟨⟨⟨by omega,by omega⟩,by omega⟩,?_⟩,fun w hw=>⟨h1,h5 w hw⟩⟩
  rw[of_decide_eq_true h4,bSh (by omega)]
  have:l.every=(l.every.toNat:Int):=by omega
  rw[this];rfl
variable {fc:Nat}
variable {count:aA->Int}
def bFr (p:aF)(l:cC)(t:Nat):Prop:=(t+1)%aP l=0/\ ¬(aZ p l t).1=zA l ((t+1)/aP l)
instance (p :aF)(l:cC)(t:Nat):Decidable (bFr p l t):=by unfold bFr;exact inferInstance
def atR (p:aF)(l:cC)(n:Int):aA×Int×Int:=
 if fY p l=true/\ 0<=n/\ n<=(l.picks.length:Int)then(if(atX p l n.toNat).2=0 then((atX p l n.toNat).1,n%(aP l:Int),0)else(aCz,0,(atX p l n.toNat).2))else(aCz,0,2)
variable {c:fO}
def vA (act:Int):Prop:=act=17 \/act=18 \/act=22 \/act=23 \/act=20
instance {act :Int}:Decidable (vA act):=by unfold vA;infer_instance
def aH0 (v:aD)(op:Int):OpR->Prop
 | .go (some e) _ _ _=>(e.act=op/\ (vA op->v.kind=5)) \/e.act=28
 |_=>True
variable {left:List aB}{op:Int}{v:aD}
theorem aLs {node:Int}{env:List aD}:aH0 v op (kO w left node env):=by
 unfold kO qJ;split
 ·trivial
 ·split<;>trivial
theorem aLt {o:aR}{k:aA->aD->OpR}(h:aH0 v op (k (eF w o) (dO w.objs.length))):aH0 v op (iZ w o k):=by
 unfold iZ;split
 ·trivial
 ·exact h
theorem aWu {c:Prop}[Decidable c]{x y:OpR}(hx:c->aH0 v op x)(hy: ¬c->aH0 v op y):aH0 v op (if c then x else y):=by
 by_cases h:c
 ·rw[if_pos h];exact hx h
 ·rw[if_neg h];exact hy h
theorem aH1 {v:aD}{op:Int}{w:aA}{left:List aB}{kids:List Int}{env:List aD}{u:aD}: ∀(l:List Pat) (i:Nat),aH0 v op (eP w left kids env u i l)
 |[],i=>trivial
 |q::qs,i=>by
  simp only[eP];split
  ·exact aLs
  ·exact aH1 qs (i+1)
theorem bCh {k:Int}(h:dA w v k=true):v.kind=5:=by simp only[dA,bOx,bSi]at h;exact h.1
variable {a:Int}
theorem bEt {f:aB}{n:aJ}:aH0 (aE f.vals 0) n.op (opR p w a left f n):=by
 unfold opR
 repeat' (with_reducible refine aWu (fun _=>?_) (fun _=>?_))
 all_goals try(split<;>(repeat' (with_reducible refine aWu (fun _=>?_) (fun _=>?_))))
 all_goals first
  |exact aLs
  |exact aH1 _ _
  |exact aLt aLs
  |exact aLt trivial
  |exact aLt (.inl ⟨Eq.symm ‹n.op=_›,fun hu=>absurd (‹n.op=_› ▸hu) (by decide)⟩)
  |exact .inl ⟨Eq.symm ‹n.op=_›,fun _=>bCh ‹_›⟩
  |exact .inl ⟨Eq.symm ‹n.op=_›,fun hu=>absurd (‹n.op=_› ▸hu) (by decide)⟩
  |exact .inr rfl
  |trivial
theorem bCi {n:aJ}(h:vA n.op):1<=n.asks:=by
 rcases h with h|h|h|h|h<;>simp[aJ.asks,h]
theorem aFs (ha:inR a 0 ((w.tasks.length:Int)-1)=true)(h:vA (cJ p w a).e.act):
  (cJ p w a).e.task=a/\ 0<(w.obj (bA w a)).frames.length/\ 0<((w.obj (bA w a)).frames.getD ((w.obj (bA w a)).frames.length-1) dQ).vals.length/\
   (aE ((w.obj (bA w a)).frames.getD ((w.obj (bA w a)).frames.length-1) dQ).vals 0).kind=5:=by
 have hz: ¬vA 0:=by decide
 revert h
 unfold cJ
 simp only
 split
 ·exact fun h=>absurd h hz
 split
 ·split
  ·exact fun h=>absurd h hz
  ·exact fun h=>absurd h hz
 split
 ·rw[vS];unfold kO qJ;split
  ·exact fun h=>absurd h hz
  ·split<;>exact fun h=>absurd h hz
 ·rename_i hlen;unfold rS;rw[aKu ha];intro h;have hact:=bEt (p:=p) (w:=w) (a:=a) (left:=(w.obj (bA w a)).frames.take ((w.obj (bA w a)).frames.length-1)) (f:=(w.obj (bA w a)).frames.getD ((w.obj (bA w a)).frames.length-1) dQ) (n:=p.node ((w.obj (bA w a)).frames.getD ((w.obj (bA w a)).frames.length-1) dQ).node);have hcalm:=aTc (p:=p) (w:=w) (a:=a) (left:=(w.obj (bA w a)).frames.take ((w.obj (bA w a)).frames.length-1)) (f:=(w.obj (bA w a)).frames.getD ((w.obj (bA w a)).frames.length-1) dQ) (n:=p.node ((w.obj (bA w a)).frames.getD ((w.obj (bA w a)).frames.length-1) dQ).node)
  revert h hact hcalm
  generalize opR p w a _ _ _=R;intro h hact hcalm;cases R with
  |go ev w' l b=>
   cases ev with
   |none=>exact absurd h hz
   |some e=>
    have h':vA e.act:=h;have hop:vA (p.node ((w.obj (bA w a)).frames.getD ((w.obj (bA w a)).frames.length-1) dQ).node).op:=by
     rcases hact with⟨h1,_⟩|h1
     ·rw[h1]at h';exact h'
     ·rw[h1]at h';exact absurd h' (by decide)
    have hask:=bCi hop;have hv:0<((w.obj (bA w a)).frames.getD ((w.obj (bA w a)).frames.length-1) dQ).vals.length:=by omega
    have hk:(aE ((w.obj (bA w a)).frames.getD ((w.obj (bA w a)).frames.length-1) dQ).vals 0).kind=5:=by
     rcases hact with⟨_,h2⟩|h1
     ·exact h2 hop
     ·rw[h1]at h';exact absurd h' (by decide)
    refine⟨hcalm.1,?_,hv,hk⟩
    cases hfr:(w.obj (bA w a)).frames with
    |nil=>rw[hfr]at hv;exact absurd hv (by decide)
    |cons=>simp
  |wait=>exact absurd h hz
  |fail s=>exact absurd h hz
variable {pick:Int}
theorem aDs (h:(dR p w pick).2.2=0):(bU p w 0).2.2=true/\ inR (aBh p (bU p w 0).1 pick) 0 (((bU p w 0).1.tasks.length:Int)-1)=true/\
  (dR p w pick).2.1=(cJ p (bU p w 0).1 (aBh p (bU p w 0).1 pick)).e/\ ¬(cJ p (bU p w 0).1 (aBh p (bU p w 0).1 pick)).what=2:=by
 have h0:(fW p w pick).2.2.2=0:=by
  unfold dR at h;simp only at h
  split at h
  ·cases h
  split at h
  ·assumption
  ·exact h
 have h1:(dR p w pick).2.1=(fW p w pick).2.1:=by
  unfold dR;simp only;rw[if_neg (by rw[h0];decide),if_pos h0]
 rw[h1];unfold fW at h0⊢
 simp only at h0⊢
 split at h0
 ·cases h0
 rename_i hs;rw[if_neg hs]
 split at h0
 ·cases h0
 rename_i hr;rw[if_neg hr]
 split at h0
 ·cases h0
 rename_i hq;rw[if_neg hq];have hlen:0<(dL p (bU p w 0).1).length:=bRv.2 hr;have hm:aBh p (bU p w 0).1 pick∈dL p (bU p w 0).1:=by
  unfold aBh;have:(pick%((dL p (bU p w 0).1).length:Int)).toNat<(dL p (bU p w 0).1).length:=by
   have:=Int.emod_nonneg pick (b:=((dL p (bU p w 0).1).length:Int)) (by omega)
   have:=Int.emod_lt_of_pos pick (b:=((dL p (bU p w 0).1).length:Int)) (by omega)
   omega
  rw[bO2,bP7 this];exact bO6 _
 refine⟨by simpa using hs,?_,rfl,?_⟩
 ·simp only[dL,gD,bPt,bQi,bPu]at hm;obtain⟨i,⟨hi,_⟩,he⟩:=hm;rw[<-he];simp[inR];omega
 ·simp only[dL,gD,bPt,bQi,bPu]at hm;obtain⟨i,⟨_,hi⟩,he⟩:=hm;rw[<-he]
  simpa using hi
theorem aLu (ha:inR a 0 ((w.tasks.length:Int)-1)=true):bA w a∈w.tasks:=by
 simp only[inR,bSi]at ha;unfold bA;rw[bO2,bP7 (by omega)]
 exact bO6 _
def aMk (p:aF)(w:aA)(e:lV):Int:=
 if vA e.act then aGv (bU p w 0).1 e.task else if e.act=16 \/e.act=21 \/e.act=19 then((bU p w 0).1.objs.length:Int)else-1
theorem aBk (hpf:p.few)(hsp:aS p=true)(hok:fY p l=true)(ht:t<l.picks.length)(h0:(aZ p l t).2.2=0):
  PC L 79 [(ply p l),zP p l t] (.i (aMk p (atX p l t).1 (aZ p l t).2.1)):=by
 obtain⟨h1,h2,h3⟩:=qO h0;have hg:=oN hok (bQm ht) h1;obtain⟨w,hw⟩: ∃w,w=(atX p l t).1:=⟨_,rfl⟩
 obtain⟨e,he⟩: ∃e,e=(aZ p l t).2.1:=⟨_,rfl⟩
 obtain⟨e1,e2,e3,_⟩:=aDs h2;rw[<-h3]at e3;rw[<-hw]at hg e1 e2 e3;rw[<-he]at e3;have hf:=pL (pN hok).1;have hgw:cX p w=true:=by simp only[gG,bOx]at hg;exact hg.2
 have hso:cX p (bU p w 0).1=true:=(lF hf (zC hgw)).ok;have hS:=aLn p w hpf (sA hsp hg) hsp;have hM:aCb p w=((bU p w 0).1,(bU p w 0).2.1,0):=by unfold aCb;rw[if_pos hg,if_pos e1]
 rw[hM]at hS;simp only[zP,aLo];rw[<-hw,<-he];unfold aMk;have hX:(aZ p l t).1=(aZ p l t).1:=rfl;generalize (aZ p l t).1=x;generalize hsw:(bU p w 0).1=y at*;have hL:=at_ Tryz.func79
 conv at hL=>rhs;reduce
 refine aG hL rfl rfl ?_
 simp only[go_sem,kK,kF]
 refine aI ?_
 simp only[go_sem,hS.ret,kA,kF]
 refine bL ?_
 simp only[go_sem,kK,(bW _).ret,kF]
 by_cases hu:vA e.act
 ·rw[if_pos hu];obtain⟨u1,u2,u3,_⟩:=aFs e2 (by rw[<-e3];exact hu)
  rw[<-e3]at u1;rw[<-u1]at e2 u2 u3;have hti:=lE _ _ (by have:=(cV.1 hso).2.2.2.2.1;simp only[gW,bOx]at this;exact this.2) (bA y e.task) (aLu e2)
  obtain⟨j,hj⟩: ∃j:Nat,bA y e.task=(j:Int):=bP2 (by have:=hti.1;simp only[inR,bSi]at this;exact this.1)
  have hjl:j<y.objs.length:=by have:=hti.1;rw[hj]at this;simp only[inR,bSi]at this;omega
  have hia:=fun en=>aFc (w:=y) (a:=e.task) (en:=en) e2
  rw[hj]at hia u2 u3;unfold aGv;rw[hj];rw[nR hjl]at u2 u3⊢;generalize hfr:y.objs[j].frames=fr at*;have hfl:fr.length<=50:=by
   have:=aDf (rV hsp hso) _ (bO6 hjl);simp only[fT,bOx,bSi]at this;rw[hfr]at this;omega
  have hwr:IntKind.i64.wrap ((fr.length:Int)-1)=((fr.length-1:Nat):Int):=by rw[show(fr.length:Int)-1=((fr.length-1:Nat):Int)by omega];exact aW (by omega)
  have hif:=fun en=>xQ (l:=fr) (en:=en) (k:=fr.length-1) (by omega)
  have hiv:=fun en=>aQ (l:=(fr.getD (fr.length-1) dQ).vals) (en:=en) u3
  rcases hu with h|h|h|h|h
  all_goals rw[h]
  all_goals simp only[go_sem,kK,hia,hjl,hfr,bOz,hwr,hif,hiv]
 ·rw[if_neg hu]
  by_cases hn:e.act=16 \/e.act=21 \/e.act=19
  ·rw[if_pos hn];rcases hn with h|h|h
   all_goals rw[h]
   all_goals simp only[go_sem,kK,bOz]
  ·rw[if_neg hn];simp only[vA,not_or]at hu hn;simp only[go_sem,kK,decide_eq_false hu.1,decide_eq_false hu.2.1,decide_eq_false hu.2.2.1,decide_eq_false hu.2.2.2.1,decide_eq_false hu.2.2.2.2,decide_eq_false hn.1,decide_eq_false hn.2.1,decide_eq_false hn.2.2]
   skip
theorem bEu {o:aR}(hv:v∈mV o)(h5:v.kind=5):v.n∈yO o:=by
 have hr:bAz v=true:=decide_eq_true h5;unfold mV at hv;unfold yO;rcases bPn.1 hv with hv|hv
 ·exact bQ9 _ (aA6 hv hr)
 ·obtain⟨f,hf,hv⟩:=bQa.1 hv
  refine bQ0 _ (bQa.2 ⟨f,hf,?_⟩)
  unfold aGl;rcases bPn.1 hv with hv|hv
  ·exact bQ9 _ (aA6 hv hr)
  ·exact bQ0 _ (aA6 hv hr)
theorem bCj {l:List aD}(h:0<l.length):aE l 0∈l:=by
 unfold aE;rw[bO2,bP7 h];exact bO6 _
theorem bHh (hw:cX p w=true)(ha:inR a 0 ((w.tasks.length:Int)-1)=true)(h:vA (cJ p w a).e.act):inR (aGv w a) 0 ((w.objs.length:Int)-1)=true:=by
 obtain⟨_,u2,u3,u4⟩:=aFs ha h;have hti:=lE _ _ (by have:=(cV.1 hw).2.2.2.2.1;simp only[gW,bOx]at this;exact this.2) (bA w a) (aLu ha)
 obtain⟨j,hj⟩: ∃j:Nat,bA w a=(j:Int):=bP2 (by have:=hti.1;simp only[inR,bSi]at this;exact this.1)
 have hjl:j<w.objs.length:=by have:=hti.1;rw[hj]at this;simp only[inR,bSi]at this;omega
 unfold aGv;rw[hj,nR hjl]at u2 u3 u4⊢
 refine bA3 hw _ (bO6 hjl) _ (bEu ?_ u4)
 have hm:=bCj u3;unfold mV
 refine bQ0 _ (bQa.2 ⟨_,?_,bQ0 _ hm⟩)
 rw[bO2,bP7 (by omega)]
 exact bO6 _
theorem aH2 (hok:fY p l=true)(ht:t<l.picks.length)(h0:(aZ p l t).2.2=0):
  cQ p l t=if 0<=aMk p (atX p l t).1 (aZ p l t).2.1 then(aMk p (atX p l t).1 (aZ p l t).2.1,(aZ p l t).2.1,0)else(0,(aZ p l t).2.1,5):=by
 obtain⟨h1,h2,h3⟩:=qO h0;have hg:=oN hok (bQm ht) h1;obtain⟨e1,e2,e3,_⟩:=aDs h2;rw[<-h3]at e3;have hf:=pL (pN hok).1;have hgw:cX p (atX p l t).1=true:=by simp only[gG,bOx]at hg;exact hg.2
 have hso:cX p (bU p (atX p l t).1 0).1=true:=(lF hf (zC hgw)).ok;unfold cQ aMk;rw[if_pos h0]
 simp only
 by_cases hu:vA (aZ p l t).2.1.act
 ·have hi:=bHh hso e2 (by rw[<-e3];exact hu)
  have he:=(aFs e2 (by rw[<-e3];exact hu)).1
  rw[<-e3]at he;rw[<-he]at hi;simp only[inR,bSi]at hi;rw[if_pos (show _ \/_ from hu),if_pos hu,if_pos hi.1]
 ·rw[if_neg (show¬(_ \/_)from hu),if_neg hu]
  split
  ·rw[if_pos (by omega)]
  ·rw[if_neg (by decide)]
def vB (p:aF)(l:cC)(n:Int):Int×Int:=
 if fY p l=true/\ 0<=n/\ n<(l.picks.length:Int)then((cQ p l n.toNat).1,(cQ p l n.toNat).2.2)else(0,2)
noncomputable def c78 :{c//L 78=some c}:=by
 have hL:=at_ Tryz.func78
 conv at hL=>rhs;reduce
 exact⟨_,hL⟩
theorem aIi (hpf:p.few)(hlf:l.few)(hsp:aS p=true)(n:Int):PC L 25 [.agg p.cs,.agg l.cs,.i n] (.tup [.i (vB p l n).1,.i (vB p l n).2]):=by
 unfold vB;have hL:=at_ Tryz.func25
 conv at hL=>rhs;reduce
 refine aG hL rfl rfl ?_
 simp only[go_sem,kK,kF]
 refine aDn ?_
 simp only[go_sem,kK]
 by_cases hok:fY p l=true
 case neg=>
  rw[if_neg (fun h=>hok h.1)]
  refine cK 2 rfl ?_
  simp only[go_sem,bO5,bO3,(tI p l hpf hlf hsp (by rw[oR];simpa using hok)).ret]
  refine⟨rfl,cD (x:= .i 0) rfl ?_⟩
  refine bD c78.2 rfl rfl ?_
  simp only[go_sem,c78]
 have hl:=oE.of hok;have hP:=tH p l hpf hlf hsp (by rw[oR];exact hok)
 refine bL ?_
 simp only[go_sem,hP.ret,kF]
 by_cases hn:0<=n/\ n<(l.picks.length:Int)
 case neg=>
  rw[if_neg (fun h=>hn h.2)]
  refine cK 9 rfl ?_
  have hc: ¬0<=n \/(0<=n/\ ¬n<(l.picks.length:Int)):=by omega
  rcases hc with h1|⟨h1,h2⟩
  case' inr=>simp only[go_sem,kK,bO5,bO3,decide_eq_true h1,decide_eq_false h2,bOz,(cT _).ret]
  case' inl=>simp only[go_sem,kK,bO5,bO3,decide_eq_false h1,(cT _).ret]
  all_goals
   refine⟨rfl,cD (x:= .i 0) rfl ?_⟩
   refine bD c78.2 rfl rfl ?_
   simp only[go_sem,c78]
 rw[if_pos ⟨hok,hn⟩]
 refine bL ?_
 simp only[go_sem,kK,decide_eq_true hn.1,decide_eq_true hn.2,bOz,(bW _).ret,kF];obtain⟨m,rfl⟩:=bP2 hn.1;rw[bPz];have hm:m<l.picks.length:=by omega
 obtain⟨o1,o2⟩:=aTi hpf hsp hok hm
 by_cases h0:(aZ p l m).2.2=0
 case neg=>
  have hx:=o2 h0;unfold cQ;rw[if_neg h0]
  refine cK 3 rfl ?_
  simp only[go_sem,bO5,bO3,hx.ret]
  refine⟨rfl,cD (x:= .i 0) rfl ?_⟩
  refine bD c78.2 rfl rfl ?_
  simp only[go_sem,c78]
 have hx:=o1 h0;have hO:=aBk hpf hsp hok hm h0;rw[aH2 hok hm h0];simp only[zP,aLo]at hx hO
 refine bL ?_
 simp only[go_sem,hx.ret,hO.ret,kF]
 by_cases hz:0<=aMk p (atX p l m).1 (aZ p l m).2.1
 ·rw[if_pos hz]
  refine bL ?_
  simp only[go_sem,decide_eq_true hz,(bW _).ret,kF]
  refine⟨rfl,lG rfl ?_⟩
  simp only[go_sem]
 ·rw[if_neg hz]
  refine cK 2 rfl ?_
  simp only[go_sem,bO5,bO3,decide_eq_false hz,(cT _).ret]
  refine⟨rfl,cD (x:= .i 0) rfl ?_⟩
  refine bD c78.2 rfl rfl ?_
  simp only[go_sem,c78]
theorem aTl : ¬(dR p w pick).2.2=5:=by
 unfold dR;simp only;split
 ·show¬(6:Int)=5;decide
 ·split
  ·show¬(0:Int)=5;decide
  ·assumption
theorem aTm {p:aF}{l:cC}: ∀(k i:Nat) (w:aA),¬(zB p l i k w).2=5
 |0,_,_=>by show¬(0:Int)=5;decide
 |k+1,i,w=>by
  rw[zB];split
  ·exact aTm k (i+1) _
  ·exact aTl
theorem aY5 : ¬(aZ p l t).2.2=5:=by
 unfold aZ;split
 ·split<;>exact aTl
 ·exact aTm _ _ _
def kE (p:aF)(l:cC)(object:Int)(t:Nat):Prop:=((aZ p l t).2.1.act=16 \/(aZ p l t).2.1.act=18)/\ aMk p (atX p l t).1 (aZ p l t).2.1=object
instance {p :aF}{l:cC}{object:Int}{t:Nat}:Decidable (kE p l object t):=by unfold kE;infer_instance
theorem aH3 {p:aF}{l:cC}(hok:fY p l=true){object:Int}(h0:0<=object): ∀n,n<=l.picks.length->
  (∃s,s<n/\ (∀u,s<u->u<n->(aZ p l u).2.2=0/\ ¬kE p l object u)/\
   ((aZ p l s).2.2=0/\ kE p l object s/\ dW p l object n=((s:Int),0) \/ ¬(aZ p l s).2.2=0/\ dW p l object n=(0,(aZ p l s).2.2))) \/
  ((∀u,u<n->(aZ p l u).2.2=0/\ ¬kE p l object u)/\ dW p l object n=(0,5))
 |0,_=> .inr ⟨fun u h=>by omega,rfl⟩
 |t+1,ht=>by
  have hstep:((aZ p l t).2.2=0/\ ¬kE p l object t)->dW p l object (t+1)=dW p l object t->
    (∃s,s<t+1/\ (∀u,s<u->u<t+1->(aZ p l u).2.2=0/\ ¬kE p l object u)/\
   ((aZ p l s).2.2=0/\ kE p l object s/\ dW p l object (t+1)=((s:Int),0) \/ ¬(aZ p l s).2.2=0/\ dW p l object (t+1)=(0,(aZ p l s).2.2))) \/
  ((∀u,u<t+1->(aZ p l u).2.2=0/\ ¬kE p l object u)/\ dW p l object (t+1)=(0,5)):=by
   intro hb he;rw[he];rcases aH3 hok h0 t (by omega)with⟨s,q1,q2,q3⟩|⟨q1,q2⟩
   ·refine .inl ⟨s,by omega,fun u r1 r2=>?_,q3⟩
    rcases bP4 u t with h|h
    ·exact q2 u r1 h
    ·obtain rfl:u=t:=by omega
     exact hb
   ·refine .inr ⟨fun u r1=>?_,q2⟩
    rcases bP4 u t with h|h
    ·exact q1 u h
    ·obtain rfl:u=t:=by omega
     exact hb
  by_cases ha:(aZ p l t).2.2=0
  ·have hT:=aH2 hok (show t<l.picks.length from ht) ha
   by_cases hw:kE p l object t
   ·refine .inl ⟨t,by omega,fun u h1 h2=>by omega,.inl ⟨ha,hw,?_⟩⟩
    rw[if_pos (show 0<=aMk p (atX p l t).1 (aZ p l t).2.1 by rw[hw.2];exact h0)]at hT
    rw[dW,hT,if_neg (fun h=>h.1 rfl),if_pos ⟨rfl,hw.2,hw.1⟩]
   ·refine hstep ⟨ha,hw⟩ ?_
    rw[dW,hT]
    by_cases hz:0<=aMk p (atX p l t).1 (aZ p l t).2.1
    ·rw[if_pos hz,if_neg (fun h=>h.1 rfl),if_neg (fun h=>hw ⟨h.2.2,h.2.1⟩)]
    ·rw[if_neg hz,if_neg (fun h=>h.2 rfl),if_neg (fun h=>absurd (show(5:Int)=0 from h.1) (by decide))]
  ·refine .inl ⟨t,by omega,fun u h1 h2=>by omega,.inr ⟨ha,?_⟩⟩
   have hT:cQ p l t=(0,(aZ p l t).2.1,(aZ p l t).2.2):=by unfold cQ;rw[if_neg ha]
   rw[dW,hT,if_pos ⟨ha,aY5⟩]
def zD (p:aF)(l:cC)(n object:Int):Int×Int:=
 if fY p l=true/\ 0<=n/\ n<=(l.picks.length:Int)/\ 0<=object then aCc p l n.toNat object else(0,2)
noncomputable def c80 :{c//L 80=some c}:=by
 have hL:=at_ Tryz.func80
 conv at hL=>rhs;reduce
 exact⟨_,hL⟩
theorem aLv (hpf:p.few)(hlf:l.few)(hsp:aS p=true)(n object:Int):PC L 26 [.agg p.cs,.agg l.cs,.i n,.i object] (.tup [.i (zD p l n object).1,.i (zD p l n object).2]):=by
 unfold zD;have hL:=at_ Tryz.func26
 conv at hL=>rhs;reduce
 refine aG hL rfl rfl ?_
 simp only[go_sem,kK,kF]
 refine aDn ?_
 simp only[go_sem,kK]
 by_cases hok:fY p l=true
 case neg=>
  rw[if_neg (fun h=>hok h.1)]
  refine cK 2 rfl ?_
  simp only[go_sem,bO5,bO3,(tI p l hpf hlf hsp (by rw[oR];simpa using hok)).ret]
  refine⟨rfl,cD (x:= .i 0) rfl ?_⟩
  refine bD c80.2 rfl rfl ?_
  simp only[go_sem,c80]
 have hl:=oE.of hok;have hP:=tH p l hpf hlf hsp (by rw[oR];exact hok)
 refine bL ?_
 simp only[go_sem,hP.ret,kF]
 by_cases hn:0<=n/\ n<=(l.picks.length:Int)/\ 0<=object
 case neg=>
  rw[if_neg (fun h=>hn h.2)]
  refine cK 13 rfl ?_
  have hc: ¬0<=n \/(0<=n/\ ¬n<=(l.picks.length:Int)) \/(0<=n/\ n<=(l.picks.length:Int)/\ ¬0<=object):=by omega
  rcases hc with h1|⟨h1,h2⟩|⟨h1,h2,h3⟩
  case' inr.inr=>simp only[go_sem,kK,bO5,bO3,decide_eq_true h1,decide_eq_true h2,decide_eq_false h3,bOz,(cT _).ret]
  case' inr.inl=>simp only[go_sem,kK,bO5,bO3,decide_eq_true h1,decide_eq_false h2,bOz,(cT _).ret]
  case' inl=>simp only[go_sem,kK,bO5,bO3,decide_eq_false h1,(cT _).ret]
  all_goals
   refine⟨rfl,cD (x:= .i 0) rfl ?_⟩
   refine bD c80.2 rfl rfl ?_
   simp only[go_sem,c80]
 rw[if_pos ⟨hok,hn⟩]
 refine bL ?_
 simp only[go_sem,kK,decide_eq_true hn.1,decide_eq_true hn.2.1,decide_eq_true hn.2.2,bOz,(bW _).ret,kF];obtain⟨m,rfl⟩:=bP2 hn.1;rw[bPz];have hm:m<=l.picks.length:=by omega
 obtain⟨b,rfl⟩:=bP2 hn.2.2;obtain⟨o1,o2⟩:=aP9 hpf hsp hok hm;unfold aCc
 by_cases h0:(atX p l m).2=0
 case neg=>
  rw[if_neg h0]
  refine cK 2 rfl ?_
  simp only[go_sem,bO5,bO3,(o2 h0).ret]
  refine⟨rfl,cD (x:= .i 0) rfl ?_⟩
  refine bD c80.2 rfl rfl ?_
  simp only[go_sem,c80]
 rw[if_pos h0]
 refine bL ?_
 simp only[go_sem,(o1 h0).ret,kF]
 by_cases hb:b<(atX p l m).1.objs.length
 case neg=>
  rw[if_pos (.inl (by omega))]
  refine cK 14 rfl ?_
  simp only[go_sem,kK,bO5,bO3,decide_eq_false hb,bOz,(cT _).ret]
  refine⟨rfl,cD (x:= .i 0) rfl ?_⟩
  refine bD c80.2 rfl rfl ?_
  simp only[go_sem,c80]
 have hob:=nR hb
 by_cases hf3:(atX p l m).1.objs[b].form=3
 case neg=>
  rw[if_pos (.inr (by rw[hob];exact hf3))]
  refine cK 14 rfl ?_
  simp only[go_sem,kK,bO5,bO3,hb,decide_eq_false hf3,bOz,(cT _).ret]
  refine⟨rfl,cD (x:= .i 0) rfl ?_⟩
  refine bD c80.2 rfl rfl ?_
  simp only[go_sem,c80]
 rw[if_neg (by rw[hob];omega)]
 refine bL ?_
 simp only[go_sem,kK,hb,hf3,bOz,(bW _).ret,kF];have hpk:=hl.pk;have hw0:IntKind.i64.wrap ((m:Int)-1)=(m:Int)-((0:Nat):Int)-1:=by rw[aW (by omega)];omega
 rw[hw0];obtain⟨K,hKm,hK1,hK2⟩: ∃K,K<=m/\ (∀k,k<K->(aZ p l (m-k-1)).2.2=0/\ ¬kE p l (b:Int) (m-k-1))/\
   ((K=m/\ dW p l (b:Int) m=(0,5)) \/(K<m/\ (aZ p l (m-K-1)).2.2=0/\ kE p l (b:Int) (m-K-1)/\ dW p l (b:Int) m=(((m-K-1:Nat):Int),0)) \/(K<m/\ ¬(aZ p l (m-K-1)).2.2=0/\ dW p l (b:Int) m=(0,(aZ p l (m-K-1)).2.2))):=by
  rcases aH3 hok (object:=(b:Int)) (by omega) m hm with⟨s,q1,q2,q3⟩|⟨q2,q3⟩
  ·refine⟨m-1-s,by omega,fun k hk=>q2 _ (by omega) (by omega),.inr ?_⟩
   have hs:m-(m-1-s)-1=s:=by omega
   rw[hs];exact q3.imp (fun h=>⟨by omega,h⟩) (fun h=>⟨by omega,h⟩)
  ·exact⟨m,bOy _,fun k hk=>q2 _ (by omega),.inl ⟨rfl,q3⟩⟩
 refine bQ K (fun k st=> ∃fr en cnt,st=⟨fr,en,cnt⟩/\ fr 3= .i (b:Int)/\ fr 10=(ply p l)/\ fr 12= .i ((m:Int)-(k:Int)-1)/\ fr 8= .ptr ⟨0,8,0⟩ 0/\ fr 9= .ptr ⟨0,9,0⟩ 0/\ fr 15= .fn 80 [] [.ptr ⟨0,8,0⟩ 0]/\ en ⟨0,8,0⟩=some (.box [.i 0] false)/\ en ⟨0,9,0⟩=some (.box [.i 0] false)) 0 (bO8 _) ⟨_,_,_,rfl,by simp only[go_sem],by simp only[go_sem],by simp only[go_sem],by simp only[go_sem],by simp only[go_sem],by simp only[go_sem],by simp only[go_sem],by simp only[go_sem]⟩ ?_
 rintro k st hk ⟨fr,en,cnt,rfl,f3,f10,f12,f8,f9,f15,e8,e9⟩
 by_cases hkm:k<m
 case neg=>
  have hz:decide ((0:Int)<=(m:Int)-(k:Int)-1)=false:=decide_eq_false (by omega)
  simp only[go_sem,kK,f12,hz,f8];rcases hK2 with⟨_,h⟩|⟨h,_⟩|⟨h,_⟩
  ·rw[h];simp only[go_sem,f9,e8,e9]
   refine⟨by simp[iR,f8,f9,Val.isUndef],lG rfl ?_⟩
   simp only[go_sem,f8,f9]
  ·omega
  ·omega
 obtain⟨t,ht⟩: ∃t,t=m-k-1:=⟨_,rfl⟩
 have htI:(m:Int)-(k:Int)-1=(t:Int):=by omega
 have htl:t<l.picks.length:=by omega
 have hz:decide ((0:Int)<=(t:Int))=true:=decide_eq_true (by omega)
 obtain⟨r1,r2⟩:=aTi hpf hsp hok htl;rw[htI]at f12;simp only[go_sem,kK,f12,hz]
 by_cases ha:(aZ p l t).2.2=0
 case neg=>
  have hKk:K=k:=by
   rcases bP4 k K with h|h
   ·exact absurd (hK1 k h).1 (by rw[<-ht];exact ha)
   ·omega
  subst hKk;rw[<-ht]at hK2;rcases hK2 with⟨h,_⟩|⟨_,h,_⟩|⟨_,_,h⟩
  ·omega
  ·exact absurd h ha
  ·rw[h]
   refine cK 2 rfl ?_
   simp only[go_sem,bO5,bO3,f12,f10,(r2 ha).ret]
   refine⟨by simp[iR,f8,f9,Val.isUndef],cD (x:= .i 0) rfl ?_⟩
   refine bD c80.2 rfl rfl ?_
   simp only[go_sem,c80,e8,e9,f8,f9]
 have hO:=aBk hpf hsp hok htl ha;have hx:=r1 ha;simp only[zP,aLo]at hx hO
 refine bL ?_
 simp only[go_sem,kK,f12,f10,hx.ret,kF];have hwr:IntKind.i64.wrap ((t:Int)-1)=(m:Int)-((k+1:Nat):Int)-1:=by rw[aW (by omega)];omega
 have hnk: ¬kE p l (b:Int) t->k<K:=fun hnw=>by
  rcases bP4 k K with h|h
  ·exact h
  ·exfalso
   obtain rfl:K=k:=by omega
   rw[<-ht]at hK2;rcases hK2 with⟨h,_⟩|⟨_,_,h,_⟩|⟨_,h,_⟩
   ·omega
   ·exact hnw h
   ·exact h ha
 by_cases hact:(aZ p l t).2.1.act=16 \/(aZ p l t).2.1.act=18
 case neg=>
  simp only[go_sem,kK,decide_eq_false (fun h=>hact (.inl h)),decide_eq_false (fun h=>hact (.inr h)),kF]
  refine bL ?_
  simp only[go_sem,kK,f12,hwr];exact⟨hnk fun h=>hact h.1,_,_,_,rfl,by simp only[go_sem,f3],by simp only[go_sem,f10],by simp only[go_sem],by simp only[go_sem,f8],by simp only[go_sem,f9],by simp only[go_sem,f15],by simp only[go_sem,e8],by simp only[go_sem,e9]⟩
 by_cases h16:(aZ p l t).2.1.act=16
 case' pos=>simp only[go_sem,kK,decide_eq_true h16]
 case' neg=>simp only[go_sem,kK,decide_eq_false h16,decide_eq_true (hact.resolve_left h16),kF]
 all_goals
  refine bL ?_
  simp only[go_sem,kK,f10,f3,hO.ret,kF];rcases Decidable.em (aMk p (atX p l t).1 (aZ p l t).2.1=(b:Int))with hob|hob
  ·have hw:kE p l (b:Int) t:=⟨hact,hob⟩;have hKk:K=k:=by
    rcases bP4 k K with h|h
    ·exact absurd hw (by have:=(hK1 k h).2;rwa [<-ht]at this)
    ·omega
   subst hKk;rw[<-ht]at hK2;rcases hK2 with⟨h,_⟩|⟨_,_,_,h⟩|⟨_,h,_⟩
   ·omega
   ·rw[h];simp only[go_sem,kK,decide_eq_true hob,f12,f8,f9,e8,e9]
    refine⟨by simp[iR,f8,f9,Val.isUndef],lG rfl ?_⟩
    simp only[go_sem,f8,f9]
   ·exact absurd ha h
  ·simp only[go_sem,decide_eq_false hob,f12,hwr];exact⟨hnk fun h=>hob h.2,_,_,_,rfl,by simp only[go_sem,f3],by simp only[go_sem,f10],by simp only[go_sem],by simp only[go_sem,f8],by simp only[go_sem,f9],by simp only[go_sem,f15],by simp only[go_sem,e8],by simp only[go_sem,e9]⟩
structure bJq (w w':aA):Prop where
 le:w.objs.length<=w'.objs.length
 same: ∀i:Nat,i<w.objs.length->w'.obj i=w.obj i \/((w.obj i).form=6/\ (w'.obj i).form=6)
section
variable {w':aA}(h:bJq w w')(hin:bDs w)
include h
end
set_option maxRecDepth 100000
set_option maxHeartbeats 4000000
theorem mJ (n lo hi:Int):PC L 57 [.i n,.i lo,.i hi] (.bool (inR n lo hi)):=by
 have hL:=at_ Tryz.func57
 conv at hL=>rhs;reduce
 refine aG hL rfl rfl ?_
 simp only[go_sem,qW]
 refine bG (fun h=>?_) (fun h=>?_)<;>simp only[go_sem,h]<;>simp at h<;>simp[h,inR]
 omega
theorem aFt (l:cC)(n:Int):PC L 17 [.agg [.i l.every,.is l.picks,.fz (l.marks.map aA.enc)],.i n] (.bool (inR n 0 l.picks.length)):=by
 have hL:=at_ Tryz.func17
 conv at hL=>rhs;reduce
 refine aG hL rfl rfl ?_
 simp only[go_sem,kK,(mJ _ _ _).ret,bOz,kF]
theorem aTn (l:cC)(hl:l.few)(n:Int):PC L 23 [.agg [.i l.every,.is l.picks,.fz (l.marks.map aA.enc)],.i n] (.bool (inR n 0 ((l.picks.length:Int)-1))):=by
 have hw:IntKind.i64.wrap ((l.picks.length:Int)-1)=(l.picks.length:Int)-1:=by have:=hl.1;unfold Few at this;exact aW (by omega)
 have hL:=at_ Tryz.func23
 conv at hL=>rhs;reduce
 refine aG hL rfl rfl ?_
 simp only[go_sem,kK,(mJ _ _ _).ret,bOz,hw,kF]
theorem aH4 (hp:eH p)(hsp:aS p=true)(hw:cX p w=true)(pick:Int):
  PC L 70 [.agg p.cs,.agg w.cs,.i pick] (.tup [.agg (dR p w pick).1.cs,evV (dR p w pick).2.1,.i (dR p w pick).2.2]):=by
 have hT:=bD4 hp hsp (zC hw) pick;have hL:=at_ Tryz.func70
 conv at hL=>rhs;reduce
 refine aG hL rfl rfl ?_
 simp only[go_sem,kK,hT.ret,evV,kF];unfold dR
 simp only
 by_cases h5:(fW p w pick).2.2.2=5
 ·rw[if_pos h5];simp only[go_sem,kK,decide_eq_true h5,iE,jL]
 rw[if_neg h5]
 by_cases h0:(fW p w pick).2.2.2=0
 ·rw[if_pos h0];simp only[go_sem,kK,h0]
  refine aI ?_
  simp only[go_sem,kA,kF]
 ·rw[if_neg h0];simp only[go_sem,kK,decide_eq_false h5,decide_eq_false h0,iE,jL,bPh]
theorem aDt (hpf:p.few)(hlf:l.few)(hc:p.cons.length<=1000):PC L 12 [.agg p.cs,.agg [.i l.every,.is l.picks,.fz (l.marks.map aA.enc)]] (.bool (fY p l)):=by
 have hF:=aMb p hpf hc;have hlog:fY p l=(fG p&&inR l.every 1 20&&decide (l.picks.length<=200)&&decide (l.marks.length=l.picks.length/aP l+1)&&l.marks.all (cX p)):=rfl;have hL:=at_ Tryz.func12
 conv at hL=>rhs;reduce
 refine aG hL rfl rfl ?_
 cases hf:fG p with
 |false=>rw[hf]at hF hlog;rw[hlog];simp only[go_sem,kK,hF.ret,bPh,bPm,kF]
 |true=>
 cases he:inR l.every 1 20 with
 |false=>rw[hf]at hF hlog;rw[he]at hlog;rw[hlog];simp only[go_sem,kK,hF.ret,(mJ _ _ _).ret,he,bPh,bPd,bPm,bQc,kF]
 |true=>
 rw[hf]at hF hlog;rw[he]at hlog;rw[hlog]
 by_cases hk:l.picks.length<=200
 case neg=>simp only[go_sem,kK,hF.ret,(mJ _ _ _).ret,he,bOz,decide_eq_false hk,show decide ((200:Int)<(l.picks.length:Int))=true from decide_eq_true (by omega),bPd,bPm,bQc,kF]
 have hev:l.every=(aP l:Int):=by simp only[inR,bSi]at he;unfold aP;omega
 have h1:1<=aP l:=by simp only[inR,bSi]at he;unfold aP;omega
 have hdv:((l.picks.length:Int)).tdiv (aP l:Int)=((l.picks.length/aP l:Nat):Int):=by rw[bSh (by omega)];rfl
 have hle:=Nat.div_le_self l.picks.length (aP l);have hw1:IntKind.i64.wrap (((l.picks.length/aP l:Nat):Int))=((l.picks.length/aP l:Nat):Int):=by generalize l.picks.length/aP l=q at hle⊢;exact aW (by omega)
 have hw2:IntKind.i64.wrap (((l.picks.length/aP l:Nat):Int)+1)=((l.picks.length/aP l+1:Nat):Int):=by generalize l.picks.length/aP l=q at hle⊢;rw[aW (by omega)];rfl
 have hne: ¬(aP l:Int)=0:=by omega
 have hk':decide ((200:Int)<(l.picks.length:Int))=false:=decide_eq_false (by omega)
 rw[hev]at he;simp only[go_sem,kK,hF.ret,(mJ _ _ _).ret,hev,he,bOz,decide_eq_true hk,hk',hne,hdv,hw1,hw2,bPd,bPr,bQ2,kF]
 by_cases hm:l.marks.length=l.picks.length/aP l+1
 case neg=>simp only[go_sem,kK,decide_eq_false hm,bPh,bPm]
 simp only[go_sem,decide_eq_true hm,bPd,bPr]
 refine bQ l.marks.length (fun k st=> ∃fr en cnt,st=⟨fr,en,cnt⟩/\ fr 2= .ptr ⟨0,2,0⟩ 0/\ fr 3= .ptr ⟨0,3,0⟩ 0/\ fr 5= .i (k:Int)/\ en ⟨0,2,0⟩=some (.box [.fz (p.nodes.map aJ.enc),.fz (p.funs.map (.int .i64)),.i p.main,.fz (p.cons.map cO.enc)] false)/\ en ⟨0,3,0⟩=some (.box [.i (aP l:Int),.is l.picks,.fz (l.marks.map aA.enc)] false)/\ (l.marks.drop k).all (cX p)=l.marks.all (cX p)) 0 (bO8 _) ⟨_,_,_,rfl,by simp only[go_sem],by simp only[go_sem],by simp only[go_sem],by simp only[go_sem],by simp only[go_sem],rfl⟩ ?_
 rintro k st hk ⟨fr,en,cnt,rfl,f2,f3,f5,e2,e3,hI⟩
 simp only[go_sem,kK,f3,f5,e3,bOz]
 refine aH (fun hq=>?_) (fun hq=>?_)
 ·have h':k<l.marks.length:=of_decide_eq_true hq;have hW:=aO8 p l.marks[k] hpf (hlf.2.2 _ (bO6 h'));have hst:=fQ h' (cX p);rw[<-hI,hst];simp only[go_sem,kK,f2,f3,f5,e2,e3,sV h',hW.ret,kF];cases hb:cX p l.marks[k]with
  |false=>simp only[go_sem,kK,bPh,bPm]
  |true=>
   simp only[go_sem,bPd,bPr,f5,h',aT h' hlf.2.1];exact⟨_,_,_,rfl,by simp only[go_sem,f2],by simp only[go_sem,f3],by simp only[go_sem],e2,e3⟩
 ·have:k=l.marks.length:=by simp at hq;omega
  subst this;rw[<-hI,bQt];simp only[go_sem]
def oB (l:cC):Bool:=!(decide (25<l.picks.length)&&decide (l.picks.length<=200))&&decide (l.picks.length<=205)&&decide (l.marks.length<=30)&&l.marks.all dB
theorem aQc (hlf:l.few):PC L 49 [.agg [.i l.every,.is l.picks,.fz (l.marks.map aA.enc)]] (.bool (oB l)):=by
 have hS:oB l=(!(decide (25<l.picks.length)&&decide (l.picks.length<=200))&&decide (l.picks.length<=205)&&decide (l.marks.length<=30)&&l.marks.all dB):=rfl;have c1:decide ((25:Int)<(l.picks.length:Int))=decide (25<l.picks.length):=by rw[bRd,bSi,bSi];omega
 have c2:decide ((l.picks.length:Int)<=200)=decide (l.picks.length<=200):=by rw[bRd,bSi,bSi];omega
 have c3:decide ((205:Int)<(l.picks.length:Int))=!decide (l.picks.length<=205):=by rw[bRd,bQb,bSi,bSj];omega
 have c4:decide ((30:Int)<(l.marks.length:Int))=!decide (l.marks.length<=30):=by rw[bRd,bQb,bSi,bSj];omega
 rw[hS];have hL:=at_ Tryz.func49
 conv at hL=>rhs;reduce
 refine aG hL rfl rfl ?_
 generalize decide (25<l.picks.length)=b1 at c1⊢;generalize decide (l.picks.length<=200)=b2 at c2⊢;generalize decide (l.picks.length<=205)=b3 at c3⊢;generalize decide (l.marks.length<=30)=b4 at c4⊢;cases b1<;>cases b2<;>cases b3<;>cases b4
 all_goals simp only[go_sem,kK,bOz,c1,c2,c3,c4,bPh,bPd,bPr,bPm,bQc,bQ2,kF]
 all_goals
  refine bQ l.marks.length (fun k st=> ∃fr en cnt,st=⟨fr,en,cnt⟩/\ fr 1= .ptr ⟨0,1,0⟩ 0/\ fr 3= .i (k:Int)/\ en ⟨0,1,0⟩=some (.box [.i l.every,.is l.picks,.fz (l.marks.map aA.enc)] false)/\ (l.marks.drop k).all dB=l.marks.all dB) 0 (bO8 _) ⟨_,_,_,rfl,by simp only[go_sem],by simp only[go_sem],by simp only[go_sem],rfl⟩ ?_
  rintro k st hk ⟨fr,en,cnt,rfl,f1,f3,e1,hI⟩
  simp only[go_sem,kK,f1,f3,e1,bOz]
  refine aH (fun hq=>?_) (fun hq=>?_)
  ·have h':k<l.marks.length:=of_decide_eq_true hq;have hW:=aEs l.marks[k] (hlf.2.2 _ (bO6 h'));have hst:=fQ h' dB;rw[<-hI,hst];simp only[go_sem,kK,f1,f3,e1,sV h',hW.ret,kF];cases hb:dB l.marks[k]with
   |false=>simp only[go_sem,kK,bPh,bPm]
   |true=>
    simp only[go_sem,bPd,bPr,f3,h',aT h' hlf.2.1];exact⟨_,_,_,rfl,by simp only[go_sem,f1],by simp only[go_sem],e1⟩
  ·have:k=l.marks.length:=by simp at hq;omega
   subst this;rw[<-hI,bQt];simp only[go_sem]
theorem cC.eq_iff {a b:cC}:a=b↔a.every=b.every/\ a.picks=b.picks/\ a.marks=b.marks:=by
 cases a;cases b;simp
instance : DecidableEq cC:=fun _ _=>decidable_of_iff _ cC.eq_iff.symm
theorem aFv (hpf:p.few)(hlf:l.few):PC L 9 [.agg p.cs,.agg [.i l.every,.is l.picks,.fz (l.marks.map aA.enc)]] (.bool (aS p&&oB l)):=by
 have h1:=aGj p hpf;have h2:=aQc hlf;have hL:=at_ Tryz.func9
 conv at hL=>rhs;reduce
 refine aG hL rfl rfl ?_
 cases hb:aS p with
 |false=>rw[hb]at h1;simp only[go_sem,kK,h1.ret,bPm,kF]
 |true=>rw[hb]at h1;simp only[go_sem,kK,h1.ret,h2.ret,bPr,kF]
theorem aN8 {p:aF}{l:cC}: ∀(k i:Nat) (w:aA),¬(zB p l i k w).2=0->(zB p l i k w).1=aCz
 |0,_,_,h=>absurd rfl h
 |k+1,i,w,h=>by
  rw[zB]at h⊢
  split at h<;>rename_i h1
  ·rw[if_pos h1];exact aN8 k (i+1) _ h
  ·rw[if_neg h1]
theorem bEv (h: ¬(atX p l n).2=0):(atX p l n).1=aCz:=aN8 _ _ _ h
theorem aY6 (h:(atX p l t).2=0):(aZ p l t).2.2=(dR p (atX p l t).1 (iL l t)).2.2:=by
 unfold aZ;rw[if_pos h];split<;>rfl
theorem xS (hpf:p.few)(hsp:aS p=true)(hok:fY p l=true)(hn:n<=l.picks.length):PC L 19 [.agg p.cs,.agg [.i l.every,.is l.picks,.fz (l.marks.map aA.enc)],.i (n:Int)] (.tup [.agg (atX p l n).1.cs,.i (atX p l n).2]):=by
 have hl:=oE.of hok;have hfm:=pL (pN hok).1;obtain⟨a,ha⟩: ∃a,a=n/aP l*aP l:=⟨_,rfl⟩
 have han:a<=n:=by rw[ha];exact bSd ..
 have hma:a%aP l=0:=by rw[ha];exact Nat.mul_mod_left ..
 have hlt:=hl.lt hn;have hia:=fun en=>sV (l:=l) (en:=en) hlt
 have hmul:=hl.mul hn;rw[<-ha]at hmul;have hda:a/aP l=n/aP l:=by rw[ha];exact Nat.mul_div_cancel _ (by have:=hl.e1;omega)
 have hma0:=oL (p:=p) hl.e1 hma;rw[hda,nF hlt]at hma0;have hmw:l.marks[n/aP l]=(atX p l a).1:=by rw[hma0]
 have hnx: ∀t,a<=t->t<n->(aZ p l t).2.2=0->(atX p l (t+1)).1=(aZ p l t).1:=fun t h1 h2 h0=>by
  rcases(aIu hl h0).2 with h|h
  ·exfalso
   have h3:(t+1)/aP l*aP l=t+1:=aGx h;have h4:(t+1)/aP l<=n/aP l:=Nat.div_le_div_right h2;have h5:=bP5 (aP l) h4;rw[h3,<-ha]at h5;omega
  ·exact h
 obtain⟨s,hs1,hs2,hs3,hs4⟩: ∃s,a<=s/\ s<=n/\ (∀t,a<=t->t<s->(aZ p l t).2.2=0)/\ ((s=n/\ (atX p l n).2=0) \/(s<n/\ ¬(aZ p l s).2.2=0/\ (aZ p l s).2.2=(atX p l n).2)):=by
  by_cases h0:(atX p l n).2=0
  ·exact⟨n,han,bOy _,fun t h1 h2=>aP7 hl n h0 t (by rw[<-ha];exact h1) h2,.inl ⟨rfl,h0⟩⟩
  ·obtain⟨s,h1,h2,h3,h4,h5⟩:=aP8 hl n h0;rw[<-ha]at h1 h3;exact⟨s,h1,by omega,h3,.inr ⟨h2,h4,h5⟩⟩
 have hpk:=hl.pk;simp only[hl.ev];have hL:=at_ Tryz.func19
 conv at hL=>rhs;reduce
 refine aG hL rfl rfl ?_
 simp only[go_sem,kK,hl.ne,hl.div,hl.wdiv hn,hmul,hia,kF]
 refine bQ s (fun i st=> ∃fr en cnt w,st=⟨fr,en,cnt⟩/\ fr 2= .i (n:Int)/\ fr 3= .ptr ⟨0,3,0⟩ 0/\ fr 4= .ptr ⟨0,4,0⟩ 0/\ fr 6= .ptr ⟨0,6,0⟩ 0/\ fr 9= .ptr ⟨0,9,0⟩ 0/\ fr 10= .i (i:Int)/\ en ⟨0,3,0⟩=some (.box [.fz (p.nodes.map aJ.enc),.fz (p.funs.map (.int .i64)),.i p.main,.fz (p.cons.map cO.enc)] false)/\ en ⟨0,4,0⟩=some (.box [.i (aP l:Int),.is l.picks,.fz (l.marks.map aA.enc)] false)/\ en ⟨0,6,0⟩=some (.box [.cl [],.cl [],.cl [],.cl [],.i 0] false)/\
  en ⟨0,9,0⟩=some (.box [.fz (w.objs.map aR.enc),.is w.tasks,.fz (w.outs.map bR.enc),.is w.ins,.i w.used] false)/\ w=(atX p l i).1/\ (atX p l i).2=0/\ a<=i) a hs1 ⟨_,_,_,l.marks[n/aP l],rfl,by simp only[go_sem],by simp only[go_sem],by simp only[go_sem],by simp only[go_sem],by simp only[go_sem],by simp only[go_sem],by simp only[go_sem],by simp only[go_sem],by simp only[go_sem],by simp only[go_sem],hmw,by rw[hma0],bOy _⟩ ?_
 rintro i st hi ⟨fr,en,cnt,w,rfl,f2,f3,f4,f6,f9,f10,e3,e4,e6,e9,hw,hw0,hai⟩
 simp only[go_sem,kK,f2,f10]
 by_cases hin:i<n
 case neg=>
  have:i=n:=by omega
  subst this;have:s=i:=by omega
  subst this;rw[<-hw,hw0];simp only[go_sem,decide_eq_false hin,f6,f9,e6,e9]
 have hT:=aH4 hfm hsp (aVk hfm hok (bQm (bPo hin hn)) hw0) (iL l i);have hil:i<l.picks.length:=by omega
 rw[<-hw,oM hil]at hT;simp only[go_sem,decide_eq_true hin]
 refine aI ?_
 simp only[go_sem,kK,f3,f4,f9,f10,e3,e4,e9,hil,hT.ret,evV,kA,kF];have hae:=aY6 hw0;rw[<-hw,oM hil]at hae
 by_cases hr:(dR p w l.picks[i]).2.2=0
 ·have his:i<s:=by
   rcases hs4 with⟨h,_⟩|⟨_,h,_⟩
   ·omega
   ·rcases bP4 i s with h'|h'
    ·exact h'
    ·obtain rfl:s=i:=by omega
     exact absurd (hae.trans hr) h
  have hax:aZ p l i=dR p w l.picks[i]:=by rw[(qO (hae.trans hr)).2.2,<-hw,oM hil]
  have hn1:=hnx i hai hin (hae.trans hr);rw[hax]at hn1;simp only[go_sem,decide_eq_true hr,f9,f10,e9,bPd,aT hil hl.few];exact⟨his,_,_,_,(dR p w l.picks[i]).1,rfl,by simp only[go_sem,f2],by simp only[go_sem,f3],by simp only[go_sem,f4],by simp only[go_sem,f6],by simp only[go_sem,f9],by simp only[go_sem],by simp only[go_sem,e3],by simp only[go_sem,e4],by simp only[go_sem,e6],by simp only[go_sem],hn1.symm,(aIu hl (hae.trans hr)).1,by omega⟩
 ·rcases hs4 with⟨h,_⟩|⟨h1,h2,h3⟩
  ·exact absurd (hae.symm.trans (hs3 i hai (by omega))) hr
  ·have his:i=s:=by
    rcases bP4 i s with h'|h'
    ·exact absurd (hae.symm.trans (hs3 i hai h')) hr
    ·omega
   subst his;rw[bEv (n:=n) (by rw[<-h3];exact h2),<-h3,hae]
   simp only[go_sem,kK,decide_eq_false hr,f6,e6,bPh];rfl
theorem aQd (hpf:p.few)(hsp:aS p=true)(hok:fY p l=true)(ht:t<l.picks.length):PC L 59 [.agg p.cs,.agg [.i l.every,.is l.picks,.fz (l.marks.map aA.enc)],.i (t:Int)] (.tup [.agg (aZ p l t).1.cs,evV (aZ p l t).2.1,.i (aZ p l t).2.2]):=by
 have hA:=xS hpf hsp hok (bQm ht);have hfm:=pL (pN hok).1;have hL:=at_ Tryz.func59
 conv at hL=>rhs;reduce
 refine aG hL rfl rfl ?_
 simp only[go_sem,kK,hA.ret,kF];unfold aZ
 by_cases h0:(atX p l t).2=0
 case neg=>
  rw[if_neg h0];simp only[go_sem,kK,decide_eq_false h0,bPh,evV,iE,jL]
 rw[if_pos h0];have hT:=aH4 hfm hsp (aVk hfm hok (bQm ht) h0) (iL l t);rw[oM ht]at hT⊢;simp only[go_sem,decide_eq_true h0,bPd]
 refine aI ?_
 simp only[go_sem,kK,ht,hT.ret,evV,kA,kF]
 by_cases hr:(dR p (atX p l t).1 l.picks[t]).2.2=0
 ·rw[if_pos hr];simp only[go_sem,hr]
  refine aI ?_
  simp only[go_sem,kA,kF]
 ·rw[if_neg hr];simp only[go_sem,kK,decide_eq_false hr,bPh]
  refine aI ?_
  simp only[go_sem,kA,kF];rfl
theorem aBl (hpf:p.few)(hsp:aS p=true)(hok:fY p l=true)(ht:t<l.picks.length):
  PC L 28 [.agg p.cs,.agg l.cs,.i (t:Int)] (.tup [.i (cQ p l t).1,evV (cQ p l t).2.1,.i (cQ p l t).2.2]):=by
 have hA:=aQd hpf hsp hok ht;have hW:=xS hpf hsp hok (bQm ht);have hfm:=pL (pN hok).1;unfold cQ;have hL:=at_ Tryz.func28
 conv at hL=>rhs;reduce
 refine aG hL rfl rfl ?_
 simp only[go_sem,kK,hA.ret,evV,kF]
 by_cases h0:(aZ p l t).2.2=0
 case neg=>
  rw[if_neg h0];simp only[go_sem,kK,decide_eq_false h0,bPh]
 rw[if_pos h0];obtain⟨h1,h2,h3⟩:=qO h0;have hg:=oN hok (bQm ht) h1;obtain⟨e1,e2,e3,_⟩:=aDs h2;rw[<-h3]at e3;have hgw:=hg;simp only[gG,bOx]at hgw;have hS:=aGs hfm hsp (zC hgw.2) 0 (by omega)
 rw[show((0:Nat):Int)=0 from rfl]at hS
 have hso:cX p (bU p (atX p l t).1 0).1=true:=(lF hfm (zC hgw.2)).ok;simp only[go_sem,kK,decide_eq_true h0,bPd,hW.ret,hS.ret,kF];generalize hy:(bU p (atX p l t).1 0).1=y at*;generalize he:(aZ p l t).2.1=e at*
 by_cases hu:vA e.act
 ·obtain⟨u1,u2,u3,_⟩:=aFs e2 (by rw[<-e3];exact hu)
  rw[<-e3]at u1;rw[<-u1]at e2 u2 u3;rw[if_pos (show _ \/_ from hu)]
  have hti:=lE _ _ (by have:=(cV.1 hso).2.2.2.2.1;simp only[gW,bOx]at this;exact this.2) (bA y e.task) (aLu e2)
  obtain⟨j,hj⟩: ∃j:Nat,bA y e.task=(j:Int):=bP2 (by have:=hti.1;simp only[inR,bSi]at this;exact this.1)
  have hjl:j<y.objs.length:=by have:=hti.1;rw[hj]at this;simp only[inR,bSi]at this;omega
  have hia:=fun en=>aFc (w:=y) (a:=e.task) (en:=en) e2
  rw[hj]at hia u2 u3;unfold aGv;rw[hj];rw[nR hjl]at u2 u3⊢;have hfl:y.objs[j].frames.length<=50:=by
   have:=aDf (rV hsp hso) _ (bO6 hjl);simp only[fT,bOx,bSi]at this;omega
  generalize hfr:y.objs[j].frames=fr at*;have hwr:IntKind.i64.wrap ((fr.length:Int)-1)=((fr.length-1:Nat):Int):=by rw[show(fr.length:Int)-1=((fr.length-1:Nat):Int)by omega];exact aW (by omega)
  have hif:=fun en=>xQ (l:=fr) (en:=en) (k:=fr.length-1) (by omega)
  have hiv:=fun en=>aQ (l:=(fr.getD (fr.length-1) dQ).vals) (en:=en) u3
  rcases hu with h|h|h|h|h
  all_goals rw[h]
  all_goals simp only[go_sem,kK]
  all_goals refine aI ?_
  all_goals simp only[go_sem,hia,hjl,hfr,bOz,hwr,hif,hiv,aR.enc,kA,kF]
  all_goals skip
 ·rw[if_neg (show¬(_ \/_)from hu)]
  by_cases hn:e.act=16 \/e.act=21 \/e.act=19
  ·rw[if_pos hn];rcases hn with h|h|h
   all_goals rw[h]
   all_goals simp only[go_sem,kK,bOz]
   all_goals skip
  ·rw[if_neg hn];simp only[vA,not_or]at hu hn;simp only[go_sem,kK,decide_eq_false hu.1,decide_eq_false hu.2.1,decide_eq_false hu.2.2.1,decide_eq_false hu.2.2.2.1,decide_eq_false hu.2.2.2.2,decide_eq_false hn.1,decide_eq_false hn.2.1,decide_eq_false hn.2.2]
   skip
def aTr (p:aF)(l:cC)(t:Nat):Prop:= ¬(cQ p l t).2.2=0/\ ¬(cQ p l t).2.2=5
def aTs (p:aF)(l:cC)(object:Int)(t:Nat):Prop:=(cQ p l t).2.2=0/\ (cQ p l t).1=object/\ ((cQ p l t).2.1.act=16 \/(cQ p l t).2.1.act=18)
theorem aFw {p:aF}{l:cC}{object:Int}: ∀n:Nat,∃K,K<=n/\ (∀k,k<K-> ¬aTr p l (n-k-1)/\ ¬aTs p l object (n-k-1))/\
  ((K=n/\ dW p l object n=(0,5)) \/(K<n/\ aTr p l (n-K-1)/\ dW p l object n=(0,(cQ p l (n-K-1)).2.2)) \/(K<n/\ ¬aTr p l (n-K-1)/\ aTs p l object (n-K-1)/\ dW p l object n=(((n-K-1:Nat):Int),0)))
 |0=>⟨0,bOy _,fun k h=>absurd h (Nat.not_lt_zero k),.inl ⟨rfl,rfl⟩⟩
 |n+1=>by
  rw[dW]
  by_cases he:aTr p l n
  ·exact⟨0,bO8 _,fun k h=>absurd h (Nat.not_lt_zero k),.inr (.inl ⟨by omega,he,by rw[if_pos (show _/\ _ from he)];rfl⟩)⟩
  ·rw[if_neg (show¬(_/\ _)from he)]
   by_cases hh:aTs p l object n
   ·exact⟨0,bO8 _,fun k h=>absurd h (Nat.not_lt_zero k),.inr (.inr ⟨by omega,he,hh,by rw[if_pos (show _/\ _ from hh)];rfl⟩)⟩
   ·rw[if_neg (show¬(_/\ _)from hh)]
    obtain⟨K,h1,h2,h3⟩:=aFw (object:=object) n;have hs: ∀k,n+1-(k+1)-1=n-k-1:=fun k=>by omega
    refine⟨K+1,by omega,fun k hk=>?_,?_⟩
    ·cases k with
     |zero=>exact⟨he,hh⟩
     |succ k=>rw[hs];exact h2 k (by omega)
    ·rw[hs];exact h3.imp (fun h=>⟨by omega,h.2⟩) (fun h=>h.imp (fun h=>⟨by omega,h.2⟩) (fun h=>⟨by omega,h.2⟩))
theorem aMl (hpf:p.few)(hsp:aS p=true)(hok:fY p l=true)(hn:n<=l.picks.length)(b:Nat):
  PC L 27 [.agg p.cs,.agg l.cs,.i (n:Int),.i (b:Int)] (.tup [.i (aCc p l n b).1,.i (aCc p l n b).2]):=by
 have hl:=oE.of hok;have hpk:=hl.pk;have hA:=xS hpf hsp hok hn;unfold aCc;have hL:=at_ Tryz.func27
 conv at hL=>rhs;reduce
 refine aG hL rfl rfl ?_
 simp only[go_sem,kK,hA.ret,kF]
 by_cases h0:(atX p l n).2=0
 case neg=>
  rw[if_neg h0];simp only[go_sem,kK,decide_eq_false h0,bPh]
 rw[if_pos h0]
 by_cases hb:b<(atX p l n).1.objs.length
 case neg=>
  rw[if_pos (.inl (by omega))]
  simp only[go_sem,kK,decide_eq_true h0,bPd,bOz,decide_eq_true (show(atX p l n).1.objs.length<=b by omega)]
 have hob:=nR hb
 by_cases hf3:(atX p l n).1.objs[b].form=3
 case neg=>
  rw[if_pos (.inr (by rw[hob];exact hf3))]
  simp only[go_sem,kK,decide_eq_true h0,bPd,bOz,decide_eq_false (show¬(atX p l n).1.objs.length<=b by omega),hb,decide_eq_false hf3,bPh,kF]
 rw[if_neg (by rw[hob];omega)]
 simp only[go_sem,kK,decide_eq_true h0,bPd,bOz,decide_eq_false (show¬(atX p l n).1.objs.length<=b by omega),hb,decide_eq_true hf3,kF]
 have hw0:IntKind.i64.wrap ((n:Int)-1)=(n:Int)-((0:Nat):Int)-1:=by rw[aW (by omega)];omega
 rw[hw0];obtain⟨K,hKm,hK1,hK2⟩:=aFw (p:=p) (l:=l) (object:=(b:Int)) n
 refine bQ K (fun k st=> ∃fr en cnt,st=⟨fr,en,cnt⟩/\ fr 3= .i (b:Int)/\ fr 4= .ptr ⟨0,4,0⟩ 0/\ fr 5= .ptr ⟨0,5,0⟩ 0/\ fr 12= .i ((n:Int)-(k:Int)-1)/\ en ⟨0,4,0⟩=some (.box p.cs false)/\ en ⟨0,5,0⟩=some (.box l.cs false)) 0 (bO8 _) ⟨_,_,_,rfl,by simp only[go_sem],by simp only[go_sem],by simp only[go_sem],by simp only[go_sem],by simp only[go_sem],by simp only[go_sem]⟩ ?_
 rintro k st hk ⟨fr,en,cnt,rfl,f3,f4,f5,f12,e4,e5⟩
 by_cases hkm:k<n
 case neg=>
  have hz:decide ((0:Int)<=(n:Int)-(k:Int)-1)=false:=decide_eq_false (by omega)
  rcases hK2 with⟨_,h⟩|⟨h,_⟩|⟨h,_⟩
  ·rw[h];simp only[go_sem,kK,hz,f12]
  ·omega
  ·omega
 obtain⟨t,ht⟩: ∃t,t=n-k-1:=⟨_,rfl⟩
 have htI:(n:Int)-(k:Int)-1=(t:Int):=by omega
 have htl:t<l.picks.length:=by omega
 have hT:=aBl hpf hsp hok htl;have hwr:IntKind.i64.wrap ((t:Int)-1)=(n:Int)-((k+1:Nat):Int)-1:=by rw[aW (by omega)];omega
 rw[htI]at f12;simp only[go_sem,kK,f4,f5,f12,e4,e5,show decide ((0:Int)<=(t:Int))=true from decide_eq_true (by omega),hT.ret,evV,kF]
 have hKk:(aTr p l t \/aTs p l (b:Int) t)->K=k:=fun h=>by
  rcases bP4 k K with h'|h'
  ·have:=hK1 k h';rw[<-ht]at this;exact absurd h (fun h=>h.elim this.1 this.2)
  ·omega
 have hnext: ¬aTr p l t-> ¬aTs p l (b:Int) t->k<K:=fun h1 h2=>by
  rcases bP4 k K with h'|h'
  ·exact h'
  ·exfalso
   obtain rfl:K=k:=by omega
   rw[<-ht]at hK2;rcases hK2 with⟨h,_⟩|⟨_,h,_⟩|⟨_,_,h,_⟩
   ·omega
   ·exact h1 h
   ·exact h2 h
 by_cases hE:aTr p l t
 ·have:=hKk (.inl hE);subst this;rw[<-ht]at hK2;rcases hK2 with⟨h,_⟩|⟨_,_,h⟩|⟨_,h,_⟩
  ·omega
  ·rw[h];simp only[go_sem,kK,decide_eq_false hE.1,decide_eq_false hE.2,bPh]
  ·exact absurd hE h
 have hq:(cQ p l t).2.2=0 \/(cQ p l t).2.2=5:=by unfold aTr at hE;omega
 rcases hq with hq|hq
 case inr=>
  have hnh: ¬aTs p l (b:Int) t:=fun h=>by have:=h.1;rw[hq]at this;exact absurd this (by decide)
  rw[hq];simp only[go_sem,kK,f12,hwr,bPh,bPd];exact⟨hnext hE hnh,_,_,_,rfl,by simp only[go_sem,f3],by simp only[go_sem,f4],by simp only[go_sem,f5],by simp only[go_sem],by simp only[go_sem,e4],by simp only[go_sem,e5]⟩
 by_cases hob2:(cQ p l t).1=(b:Int)
 case neg=>
  simp only[go_sem,kK,hq,decide_eq_false hob2,f3,f12,hwr,bPd];exact⟨hnext hE fun h=>hob2 h.2.1,_,_,_,rfl,by simp only[go_sem,f3],by simp only[go_sem,f4],by simp only[go_sem,f5],by simp only[go_sem],by simp only[go_sem,e4],by simp only[go_sem,e5]⟩
 have hcs:(cQ p l t).2.1.act=16 \/(¬(cQ p l t).2.1.act=16/\ (cQ p l t).2.1.act=18) \/(¬(cQ p l t).2.1.act=16/\ ¬(cQ p l t).2.1.act=18):=by omega
 rcases hcs with h16|⟨h16,h18⟩|⟨h16,h18⟩
 case inr.inr=>
  simp only[go_sem,kK,hq,decide_eq_true hob2,decide_eq_false h16,decide_eq_false h18,f3,f12,hwr,bPd,kF];exact⟨hnext hE fun h=>h.2.2.elim h16 h18,_,_,_,rfl,by simp only[go_sem,f3],by simp only[go_sem,f4],by simp only[go_sem,f5],by simp only[go_sem],by simp only[go_sem,e4],by simp only[go_sem,e5]⟩
 case' inl=>
  have hh:aTs p l (b:Int) t:=⟨hq,hob2,.inl h16⟩;simp only[go_sem,kK,hq,decide_eq_true hob2,decide_eq_true h16,f3,f12,bPd]
 case' inr.inl=>
  have hh:aTs p l (b:Int) t:=⟨hq,hob2,.inr h18⟩;simp only[go_sem,kK,hq,decide_eq_true hob2,decide_eq_false h16,decide_eq_true h18,f3,f12,bPd,kF]
 all_goals
  have hKe:=hKk (.inr hh);subst hKe;rw[<-ht]at hK2;rcases hK2 with⟨h,_⟩|⟨_,h,_⟩|⟨_,_,_,h⟩
  ·omega
  ·exact absurd h hE
  ·rw[h]
theorem aDu (h:aS p=true):p.cons.length<=1000:=by
 simp only[aS,bOx,bSi]at h;omega
theorem aDv (hk:PC L 10 [] (.bool true))(hpf:p.few)(hlf:l.few)(n object:Int):PC L 5 [.agg p.cs,.agg l.cs,.i n,.i object] (.bool true):=by
 have hS:=aFv hpf hlf;have hLz:=at_ Tryz.func5
 conv at hLz=>rhs;reduce
 refine aG hLz rfl rfl ?_
 cases hsm:(aS p&&oB l)with
 |false=>
  rw[hsm]at hS;simp only[go_sem,kK,hS.ret,hk.ret,bPh,kF]
 |true=>
 rw[hsm]at hS;rw[bOx]at hsm;have hsp:=hsm.1;have hT:=aIi hpf hlf hsp n;have hW:=aLv hpf hlf hsp n object;have hL:=aDt hpf hlf (aDu hsp);have hTn:=aFt l n;have hTu:=aTn l hlf n
 by_cases hok:fY p l=true
 case neg=>
  rw[show vB p l n=(0,2)from if_neg (fun h=>hok h.1)]at hT
  rw[show zD p l n object=(0,2)from if_neg (fun h=>hok h.1)]at hW
  rw[show fY p l=false by simpa using hok]at hL
  simp only[go_sem,kK,hS.ret,hT.ret,hW.ret,hL.ret,hk.ret,bPd,bPh,decide_true,kF]
 rw[hok]at hL
 by_cases hn:inR n 0 l.picks.length=true
 case neg=>
  have hn': ¬(0<=n/\ n<=(l.picks.length:Int)):=by simp only[inR,bSi]at hn;omega
  rw[show vB p l n=(0,2)from if_neg (fun h=>hn' ⟨h.2.1,by omega⟩)]at hT
  rw[show zD p l n object=(0,2)from if_neg (fun h=>hn' ⟨h.2.1,h.2.2.1⟩)]at hW
  rw[show inR n 0 l.picks.length=false by simpa using hn]at hTn
  simp only[go_sem,kK,hS.ret,hT.ret,hW.ret,hL.ret,hTn.ret,hk.ret,bPd,bPh,decide_true,kF]
 rw[hn]at hTn;have hn':0<=n/\ n<=(l.picks.length:Int):=by simp only[inR,bSi]at hn;exact hn
 obtain⟨m,rfl⟩:=bP2 hn'.1;have hm:m<=l.picks.length:=by omega
 by_cases hb:0<=object
 case' pos=>
  obtain⟨b,rfl⟩:=bP2 hb;have hX:=aMl hpf hsp hok hm b;rw[show zD p l m b=aCc p l m b from if_pos ⟨hok,hn'.1,hn'.2,hb⟩]at hW
  simp only[go_sem,kK,hS.ret,hT.ret,hW.ret,hL.ret,hTn.ret,hX.ret,decide_eq_true hb,bPd,decide_true,kF]
 case' neg=>
  rw[show zD p l m object=(0,2)from if_neg (fun h=>hb h.2.2.2)]at hW
  simp only[go_sem,kK,hS.ret,hT.ret,hW.ret,hL.ret,hTn.ret,decide_eq_false hb,bPd,decide_true,kF]
 all_goals
  by_cases hlt:m<l.picks.length
  ·rw[show inR (m:Int) 0 ((l.picks.length:Int)-1)=true by simp[inR];omega]at hTu
   rw[show vB p l m=((cQ p l m).1,(cQ p l m).2.2)from if_pos ⟨hok,hn'.1,by omega⟩]
   have hX:=aBl hpf hsp hok hlt;simp only[go_sem,kK,hTu.ret,hX.ret,hk.ret,evV,bPd,decide_true,kF]
  ·rw[show inR (m:Int) 0 ((l.picks.length:Int)-1)=false by simp[inR];omega]at hTu
   rw[show vB p l m=(0,2)from if_neg (fun h=>hlt (by omega))]
   simp only[go_sem,kK,hTu.ret,hk.ret,bPh,decide_true,kF]
end Go.Proofs.YtmnchlhngpdffaaGreat

