/- Contracts of functions of the program and of the document: part 7. -/
import Derived.Test.YtmnchlhngpdffaaGreatM5
import Derived.Test.YtmnchlhngpdffaaGreatM2
set_option linter.all false
open Bool renaming and_eq_true → bN8, and_false → bPp, and_true → bQa, eq_iff_iff → bQh, false_and → bOx, not_eq_true' → bPg, not_false → bOs, not_true → bOn, true_and → bO3
open Int renaming tdiv_eq_ediv_of_nonneg → bRs
open List renaming all_eq_true → bOe, append_nil → bPa, drop_length → bP1, getElem_mem → bOg, length_map → bOc, mem_cons → bO8, nil_append → bPb, replicate_succ → bPk, replicate_zero → bPj, take_succ_cons → bOp, take_zero → bOm
open Nat renaming add_zero → bPo, div_mul_le_self → bRo, le_of_lt → bQ2, le_refl → bN9, le_trans → bOk, lt_of_lt_of_le → bOy, lt_or_ge → bP6, mul_le_mul_right → bPd, zero_le → bOf
namespace Go.Proofs.YtmnchlhngpdffaaGreat
open Go.Abs Go.Proofs
set_option maxRecDepth 100000
set_option maxHeartbeats 4000000
theorem aWz (p:aI)(l:dB)(hp:p.few)(hl:l.few)(hsp:aV p=true)(h:aFn p l=true):PC L 55 [.agg p.cs,.agg l.cs] ((ply p l)):=by
 have hC:=aB4 p l hp hl hsp;rw[if_pos h]at hC;have hL:=at_ Tryz.func55
 conv at hL=>rhs;reduce
 refine aH hL rfl rfl ?_
 simp only[go_sem,kK]
 refine cU ?_
 simp only[go_sem,hC.ret,(sD _).ret]
theorem aW0 (p:aI)(l:dB)(hp:p.few)(hl:l.few)(hsp:aV p=true)(h:aFn p l=false):PX L 55 [.agg p.cs,.agg l.cs] (aAr 2):=by
 have hC:=aB4 p l hp hl hsp;rw[h,if_neg (by decide)]at hC
 have hL:=at_ Tryz.func55
 conv at hL=>rhs;reduce
 refine aIp hL rfl rfl ?_
 simp only[go_sem,kK]
 refine eX 4 rfl ?_
 simp only[go_sem,bOp,bOm,hC.ret,(yC _).ret]
variable {w:aB}{p:aI}
theorem aGt (hg:iJ p w=true)(pick:Int):((eS p w pick).2.2=0/\ (yO p w pick).2.2.2=0/\ yO p w pick=fW p w pick/\ (eS p w pick).1=(fW p w pick).1/\ (eS p w pick).2.1=(fW p w pick).2.1) \/
  ((yO p w pick).2.2.2=5/\ (eS p w pick).2.2=6) \/((yO p w pick).2.2.2=8/\ (eS p w pick).2.2=8):=by
 unfold yO eS;rw[if_pos hg]
 simp only
 rcases aWx p w pick with h|h|h
 ·refine .inl ⟨?_,?_,?_,?_,?_⟩<;>simp[h]
 ·exact .inr (.inl ⟨by simp[h],by simp[h]⟩)
 ·exact .inr (.inr ⟨by simp[h],by simp[h]⟩)
theorem aKj (p:aI)(l:dB)(w:aB)(pick:Int)(hp:p.few)(hw:w.few)(hsp:aV p=true)(hg:iJ p w=true)(h:(eS p w pick).2.2=0):
  PC L 105 [(ply p l),.agg w.cs,.i pick] (.tup [.agg (eS p w pick).1.cs,evV (eS p w pick).2.1]):=by
 have hT:=aEp p w pick hp hw hsp;obtain⟨_,h0,e1,e2,e3⟩:(eS p w pick).2.2=0/\ (yO p w pick).2.2.2=0/\ yO p w pick=fW p w pick/\ (eS p w pick).1=(fW p w pick).1/\ (eS p w pick).2.1=(fW p w pick).2.1:=by
  rcases aGt hg pick with h'|⟨_,h'⟩|⟨_,h'⟩
  ·exact h'
  ·rw[h]at h';cases h'
  ·rw[h]at h';cases h'
 rw[h0,e1]at hT;rw[e2,e3];have hL:=at_ Tryz.func105
 conv at hL=>rhs;reduce
 refine aH hL rfl rfl ?_
 simp only[go_sem,kK]
 refine aJ ?_
 simp only[go_sem,hT.ret,evV,kA,kF]
 refine cU ?_
 simp only[go_sem,(sD _).ret]
 refine cU ?_
 simp only[go_sem,(sD _).ret]
 refine aJ ?_
 simp only[go_sem,kA,kF]
theorem aKk (p:aI)(l:dB)(w:aB)(pick:Int)(hp:p.few)(hw:w.few)(hsp:aV p=true)(hg:iJ p w=true)(h: ¬(eS p w pick).2.2=0):
  PX L 105 [(ply p l),.agg w.cs,.i pick] (aAr (eS p w pick).2.2):=by
 have hT:=aEp p w pick hp hw hsp;rcases aGt hg pick with h'|⟨h1,h2⟩|⟨h1,h2⟩
 ·exact absurd h'.1 h
 ·rw[h1]at hT;rw[h2];have hL:=at_ Tryz.func105
  conv at hL=>rhs;reduce
  refine aIp hL rfl rfl ?_
  simp only[go_sem,kK]
  refine aJ ?_
  simp only[go_sem,hT.ret,evV,kA,kF]
  refine eX 2 rfl ?_
  simp only[go_sem,bOp,bOm,(yC _).ret]
 ·rw[h1]at hT;rw[h2];have hL:=at_ Tryz.func105
  conv at hL=>rhs;reduce
  refine aIp hL rfl rfl ?_
  simp only[go_sem,kK]
  refine aJ ?_
  simp only[go_sem,hT.ret,evV,kA,kF]
  refine cU ?_
  simp only[go_sem,(sD _).ret]
  refine eX 3 rfl ?_
  simp only[go_sem,bOp,bOm,(yC _).ret]
theorem aOg (a b:List bJ)(ha:Few a.length):PC L 165 [.fz (a.map bJ.enc),.fz (b.map bJ.enc)] (.bool (decide (a=b))):=by
 refine aH bH5 rfl rfl ?_
 simp only[go_sem,kK,bC8]
 refine aD (fun h=>?_) (fun h=>?_)
 ·simp only[go_sem,kK]
  simp at h
  have: ¬a=b:=by rintro rfl;exact h rfl
  simp[this]
 ·have hl:a.length=b.length:=by simp at h;exact h
  simp only[go_sem]
  refine bH (a.length) (fun k st=> ∃fr en cnt,st=⟨fr,en,cnt⟩/\ (fr 0= .fz (a.map bJ.enc))/\ (fr 1= .fz (b.map bJ.enc))/\ (fr 12= .i a.length)/\ (fr 13= .i k)/\ (a.take k=b.take k)) 0 (bOf _) ⟨_,_,_,rfl,(by first|(simp only[go_sem];(try rfl);done)|rfl|(simp;done)),(by first|(simp only[go_sem];(try rfl);done)|rfl|(simp;done)),(by first|(simp only[go_sem];(try rfl);done)|rfl|(simp;done)),(by first|(simp only[go_sem];(try rfl);done)|rfl|(simp;done)),(by first|(simp only[go_sem];(try rfl);done)|rfl|(simp;done))⟩ ?_
  rintro k st hk ⟨fr,en,cnt,rfl,h0,h1,h12,h13,hI⟩
  simp only[go_sem,kK,h12,h13]
  refine aD (fun hq=>?_) (fun hq=>?_)
  ·have h':k<a.length:=of_decide_eq_true hq;have h'':k<b.length:=by omega
   simp only[go_sem,kK,h',h'',h0,h1,h13,bJ.eq_iff]
   refine aD (fun hb=>?_) (fun hb=>?_)
   ·simp only[go_sem,kK]
    simp at hb
    simp[aBt h' h'' hb]
   ·simp only[go_sem,h13]
    simp at hb
    refine⟨_,_,_,rfl,?_⟩
    simp only[go_sem,h0,h1,h12,aQ h' ha];exact qJ h' h'' hI hb
  ·have:k=a.length:=by simp at hq;omega
   subst this;simp only[go_sem];simp[qK hl hI]
theorem aG8 (a b:aA)(ha:a.few):PC L 159 [.agg [.i a.node,.fz (a.env.map aE.enc),.fz (a.vals.map aE.enc)],.agg [.i b.node,.fz (b.env.map aE.enc),.fz (b.vals.map aE.enc)]] (.bool (decide (a=b))):=by
 rw[aA.eq_iff];have hL:=at_ Tryz.func159
 conv at hL=>rhs;reduce
 refine aH hL rfl rfl ?_
 simp only[go_sem,kK]
 refine aG (fun g1=>?_) (fun g1=>?_)
 ·simp only[go_sem,kK,g1,(xT _ _ ha.1).ret]
  refine aG (fun g2=>?_) (fun g2=>?_)
  ·simp only[go_sem,kK,g2,(xT _ _ ha.2).ret,bO3]
  ·simp only[go_sem,kK,g2,bOn,bOx]
 ·simp only[go_sem,kK,g1,bOn,bOx]
theorem aCr (a b:List aA)(ha:Few a.length)(hf: ∀x∈a,x.few):PC L 162 [.fz (a.map aA.enc),.fz (b.map aA.enc),.fn 159 [] []] (.bool (decide (a=b))):=by
 have hL:=at_ Tryz.func162
 conv at hL=>rhs;reduce
 refine aH hL rfl rfl ?_
 simp only[go_sem,kK]
 refine aD (fun h=>?_) (fun h=>?_)
 ·simp only[go_sem,kK]
  simp at h
  have: ¬a=b:=by rintro rfl;exact h rfl
  simp[this]
 ·have hl:a.length=b.length:=by simp at h;exact h
  simp only[go_sem]
  refine bH (a.length) (fun k st=> ∃fr en cnt,st=⟨fr,en,cnt⟩/\ (fr 0= .fz (a.map aA.enc))/\ (fr 1= .fz (b.map aA.enc))/\ (fr 2= .fn 159 [] [])/\ (fr 15= .fz (a.map aA.enc))/\ (fr 16= .i a.length)/\ (fr 17= .i k)/\ (a.take k=b.take k)) 0 (bOf _) ⟨_,_,_,rfl,(by first|(simp only[go_sem];(try rfl);done)|rfl|(simp;done)),(by first|(simp only[go_sem];(try rfl);done)|rfl|(simp;done)),(by first|(simp only[go_sem];(try rfl);done)|rfl|(simp;done)),(by first|(simp only[go_sem];(try rfl);done)|rfl|(simp;done)),(by first|(simp only[go_sem];(try rfl);done)|rfl|(simp;done)),(by first|(simp only[go_sem];(try rfl);done)|rfl|(simp;done)),(by first|(simp only[go_sem];(try rfl);done)|rfl|(simp;done))⟩ ?_
  rintro k st hk ⟨fr,en,cnt,rfl,h0,h1,h2,h15,h16,h17,hI⟩
  simp only[go_sem,kK,h16,h17]
  refine aD (fun hq=>?_) (fun hq=>?_)
  ·have h':k<a.length:=of_decide_eq_true hq;have h'':k<b.length:=by omega
   simp only[go_sem,kK,h',h'',h1,h2,h15,h17,(aG8 _ b[k] (hf _ (bOg h'))).ret]
   refine aD (fun hb=>?_) (fun hb=>?_)
   ·simp only[go_sem,kK]
    simp at hb
    simp[aBt h' h'' hb]
   ·simp only[go_sem,h17]
    simp at hb
    refine⟨_,_,_,rfl,?_⟩
    simp only[go_sem,h0,h1,h2,h15,h16,aQ h' ha];exact qJ h' h'' hI hb
  ·have:k=a.length:=by simp at hq;omega
   subst this;simp only[go_sem];simp[qK hl hI]
theorem aG9 (a b:aR)(ha:a.few):PC L 161 [.agg [.i a.form,.i a.n,.fz (a.vals.map aE.enc),.fz (a.frames.map aA.enc)],.agg [.i b.form,.i b.n,.fz (b.vals.map aE.enc),.fz (b.frames.map aA.enc)],.fp [.fn 159 [] []] 0] (.bool (decide (a=b))):=by
 rw[aR.eq_iff];have hL:=at_ Tryz.func161
 conv at hL=>rhs;reduce
 refine aH hL rfl rfl ?_
 simp only[go_sem,kK]
 refine aG (fun g1=>?_) (fun g1=>?_)
 ·simp only[go_sem,kK,g1]
  refine aG (fun g2=>?_) (fun g2=>?_)
  ·simp only[go_sem,kK,g2,(xT _ _ ha.1).ret]
   refine aG (fun g3=>?_) (fun g3=>?_)
   ·simp only[go_sem,kK,g3,(aCr _ _ ha.2.1 ha.2.2).ret,bO3]
   ·simp only[go_sem,kK,g3,bOn,bOx]
  ·simp only[go_sem,kK,g2,bOn,bOx]
 ·simp only[go_sem,kK,g1,bOn,bOx]
theorem aFo (a b:List aR)(ha:Few a.length)(hf: ∀x∈a,x.few):PC L 163 [.fz (a.map aR.enc),.fz (b.map aR.enc),.fn 161 [] [.fp [.fn 159 [] []] 0]] (.bool (decide (a=b))):=by
 have hL:=at_ Tryz.func163
 conv at hL=>rhs;reduce
 refine aH hL rfl rfl ?_
 simp only[go_sem,kK]
 refine aD (fun h=>?_) (fun h=>?_)
 ·simp only[go_sem,kK]
  simp at h
  have: ¬a=b:=by rintro rfl;exact h rfl
  simp[this]
 ·have hl:a.length=b.length:=by simp at h;exact h
  simp only[go_sem]
  refine bH (a.length) (fun k st=> ∃fr en cnt,st=⟨fr,en,cnt⟩/\ (fr 0= .fz (a.map aR.enc))/\ (fr 1= .fz (b.map aR.enc))/\ (fr 2= .fn 161 [] [.fp [.fn 159 [] []] 0])/\ (fr 15= .fz (a.map aR.enc))/\ (fr 16= .i a.length)/\ (fr 17= .i k)/\ (a.take k=b.take k)) 0 (bOf _) ⟨_,_,_,rfl,(by first|(simp only[go_sem];(try rfl);done)|rfl|(simp;done)),(by first|(simp only[go_sem];(try rfl);done)|rfl|(simp;done)),(by first|(simp only[go_sem];(try rfl);done)|rfl|(simp;done)),(by first|(simp only[go_sem];(try rfl);done)|rfl|(simp;done)),(by first|(simp only[go_sem];(try rfl);done)|rfl|(simp;done)),(by first|(simp only[go_sem];(try rfl);done)|rfl|(simp;done)),(by first|(simp only[go_sem];(try rfl);done)|rfl|(simp;done))⟩ ?_
  rintro k st hk ⟨fr,en,cnt,rfl,h0,h1,h2,h15,h16,h17,hI⟩
  simp only[go_sem,kK,h16,h17]
  refine aD (fun hq=>?_) (fun hq=>?_)
  ·have h':k<a.length:=of_decide_eq_true hq;have h'':k<b.length:=by omega
   simp only[go_sem,kK,h',h'',h1,h2,h15,h17,(aG9 _ b[k] (hf _ (bOg h'))).ret]
   refine aD (fun hb=>?_) (fun hb=>?_)
   ·simp only[go_sem,kK]
    simp at hb
    simp[aBt h' h'' hb]
   ·simp only[go_sem,h17]
    simp at hb
    refine⟨_,_,_,rfl,?_⟩
    simp only[go_sem,h0,h1,h2,h15,h16,aQ h' ha];exact qJ h' h'' hI hb
  ·have:k=a.length:=by simp at hq;omega
   subst this;simp only[go_sem];simp[qK hl hI]
theorem aB.eq_iff {a b:aB}:decide (a=b)=(decide (a.objs=b.objs)&&decide (a.tasks=b.tasks)&&decide (a.outs=b.outs)&&decide (a.ins=b.ins)&&decide (a.used=b.used)):=by
 cases a;cases b;simp[Bool.and_assoc]
theorem aOh (a b:aB)(ha:a.few):PC L 114 [.agg a.cs,.agg b.cs] (.bool (decide (a=b))):=by
 rw[aB.eq_iff];have hL:=at_ Tryz.func114
 conv at hL=>rhs;reduce
 refine aH hL rfl rfl ?_
 simp only[go_sem,kK,bEz,aYt,kF,(aFo _ _ ha.objs ha.obj).ret]
 refine aG (fun g1=>?_) (fun g1=>?_)
 ·simp only[go_sem,kK,g1,(aD1 _ _ ha.tasks).ret]
  refine aG (fun g2=>?_) (fun g2=>?_)
  ·simp only[go_sem,kK,g2,(aOg _ _ ha.outs).ret]
   refine aG (fun g3=>?_) (fun g3=>?_)
   ·simp only[go_sem,kK,g3,(aD1 _ _ ha.ins).ret]
    refine aG (fun g4=>?_) (fun g4=>?_)
    ·simp only[go_sem,kK,g4,bO3]
    ·simp only[go_sem,kK,g4,bOn,bOx]
   ·simp only[go_sem,kK,g3,bOn,bOx]
  ·simp only[go_sem,kK,g2,bOn,bOx]
 ·simp only[go_sem,kK,g1,bOn,bOx]
def aRl (g3:Nat)(en en':En):Prop:= ∀n t g,(n≠0 \/t∉[1,2,3,5,10,24] \/(t=3/\ g<g3))->en' ⟨n,t,g⟩=en ⟨n,t,g⟩
variable {g3:Nat}{en:En}
theorem aRl.refl :aRl g3 en en:=fun _ _ _ _=>rfl
variable {t g:Nat}{e:Option Ent}{en':En}
theorem aRl.set (h:aRl g3 en en')(ht:t∈[1,2,3,5,10,24])(hg:t=3->g3<=g):aRl g3 en (en'.set ⟨0,t,g⟩ e):=by
 intro n u g' k;rw[pU,h n u g' k];intro he
 injection he with h1 h2 h3
 subst h1 h2 h3;rcases k with k|k|k
 ·exact k rfl
 ·exact k ht
 ·have:=hg k.1;omega
theorem aRl.step {en2:En}(h:aRl g3 en en')(k: ∀n t g,n≠0 \/(t≠24/\ t∉[24])->en2 ⟨n,t,g⟩=en' ⟨n,t,g⟩):aRl g3 en en2:=fun n t g q=>by
 rw[k n t g,h n t g q];rcases q with q|q|q
 ·exact .inl q
 ·exact .inr ⟨fun e=>q (by simp[e]),fun e=>q (by simp at e;simp[e])⟩
 ·exact .inr ⟨by omega,by simp;omega⟩
theorem vP (p:aI)(l:dB)(a b:Int):PC L 65 [(ply p l),.i a,.i b] (.fn 118 [] [.fp [.i a] 0,.fp [.i b] 0,.fp [(ply p l)] 0]):=by
 have hL:=at_ Tryz.func65
 conv at hL=>rhs;reduce
 refine aH hL rfl rfl ?_
 simp only[go_sem,kK,kF]
theorem bFh :cZ .eql .iface .nili .nili=some (.bool true):=(rfl)
theorem bFi {v:Val}:cZ .eql .iface (.ifc t v) .nili=some (.bool false):=(rfl)
variable {k:Key}
theorem aW1 {a b:Option Ent}:(en.set k a).set k b=en.set k b:=by
 funext j
 by_cases h:j=k<;>simp[En.set,h]
variable {K:St->Prop}{x f:Val}{fr:Nat->Val}{cnt:Nat->Nat->Nat}
theorem oO {e:Ex}(he:e.rcvd=some .nili)(hK:K ⟨fr,en,cnt⟩):
  ∃st4,(∃n0,∀n,n0<=n->gK L (exec L n) (.fn 53 [] []) [x,f] e ⟨fr,en,cnt⟩=some st4)/\ K st4:=by
 have hL:=at_ Tryz.func53
 conv at hL=>rhs;reduce
 refine sH hL rfl he rfl rfl ?_
 simp only[go_sem,kK,bPb,bPa,bFh,kF];exact hK
theorem aEq {e:Ex}{n:Int}(he:e.rcvd=some (aAr n))
  (hf:WIn L f [] (en.set ⟨0,5,cnt 0 5⟩ (some (.box [.i n] false))) (aC cnt 0 5 (cnt 0 5+1)) fun _ en' cnt'=>en' k=some (.box [x] false)/\ en' ⟨0,5,cnt 0 5⟩=some (.box [.i n] false)/\ K ⟨fr,en'.set k (some (.box [.i n] false)),cnt'⟩):
  ∃st4,(∃n0,∀n,n0<=n->gK L (exec L n) (.fn 53 [] []) [.ptr k 0,f] e ⟨fr,en,cnt⟩=some st4)/\ K st4:=by
 have hL:=at_ Tryz.func53
 conv at hL=>rhs;reduce
 refine sH hL rfl he rfl rfl ?_
 simp only[go_sem,kK,aAr,bPb,bPa,bFi,kF,if_true];rw[aW1]
 refine WIn.mono hf ?_
 rintro v e2 c2 ⟨k1,k2,hk⟩
 simp only[go_sem,k1,k2];exact hk
set_option maxRecDepth 100000
set_option maxHeartbeats 4000000
set_option maxRecDepth 100000
set_option maxHeartbeats 4000000
structure rG (l:dB):Prop where
 e1:1<=aP l
 e2:aP l<=20
 ev:l.every=(aP l:Int)
 pk:l.picks.length<=200
 mn:l.marks.length=l.picks.length/aP l+1
variable {l:dB}
theorem rG.of (h:mN p l=true):rG l:=let ⟨_,⟨a,b,c⟩,d,e,_⟩:=qH h;⟨a,b,c,d,e⟩
variable {n:Nat}
theorem rG.lt (h:rG l)(hn:n<=l.picks.length):n/aP l<l.marks.length:=by
 rw[h.mn];have:=Nat.div_le_div_right (c:=aP l) hn;omega
theorem rG.div (h:rG l)(n:Nat):((n:Int)).tdiv (aP l:Int)=((n/aP l:Nat):Int):=by
 rw[bRs (by omega)];rfl
theorem rG.few (h:rG l):Few l.picks.length:=by have:=h.pk;unfold Few;omega
theorem rG.wdiv (h:rG l)(hn:n<=l.picks.length):IntKind.i64.wrap (((n/aP l:Nat):Int))=((n/aP l:Nat):Int):=by
 have h1:=Nat.div_le_self n (aP l);have:=h.pk;generalize n/aP l=q at h1⊢;exact aY (by omega)
theorem rG.mul (h:rG l)(hn:n<=l.picks.length):IntKind.i64.wrap (((n/aP l:Nat):Int)*(aP l:Int))=((n/aP l*aP l:Nat):Int):=by
 have h1:=bRo n (aP l);have:=h.pk;rw[<-Int.natCast_mul];generalize n/aP l*aP l=q at h1⊢;exact aY (by omega)
theorem rG.ne (h:rG l):((aP l:Int)=0)=False:=eq_false (by have:=h.e1;omega)
theorem gQ {k:Nat}(h:k<l.marks.length):pR l k=l.marks[k]:=by simp[pR,h]
theorem aTn (hl:rG l)(hn:n<=l.picks.length)(hm:n%aP l=0):PC L 63 [.fp [.i l.every,.is l.picks,.fz (l.marks.map aB.enc),.fz (p.nodes.map aL.enc),.fz (p.funs.map (.int .i64)),.i p.main,.fz (p.cons.map cD.enc)] 0,.i (n:Int)] (.agg (pR l (n/aP l)).cs):=by
 have hlt:=hl.lt hn;have hia:=fun en=>qL (l:=l) (en:=en) hlt
 have hnn:n/aP l*aP l=n:=Nat.div_mul_cancel (Nat.dvd_of_mod_eq_zero hm);have hmul:=hl.mul hn;rw[hnn]at hmul;have ht:=vP p l n n;rw[gQ hlt];simp only[ply,hl.ev]at ht⊢;have hL:=at_ Tryz.func63
 conv at hL=>rhs;reduce
 refine aH hL rfl rfl ?_
 simp only[go_sem,kK,hl.ne,hl.div,hl.wdiv hn,hmul,kF]
 refine aJ ?_
 simp only[go_sem,hl.ne,hl.div,hl.wdiv hn,hia,kA,kF];simp only[go_sem,ht.ret]
 refine zM (by simp only[go_sem];rfl) ?_
 rintro fr0 k hf hk
 rw[aSp]at hk;subst hk
 refine bO aLs rfl rfl ?_
 simp only[go_sem,kK,aI0,decide_eq_true (bN9 n),kF]
 done
def aUq (w x:aB)(e:lQ):Val:= .agg [.fz (w.objs.map aR.enc),.is w.tasks,.fz (w.outs.map bJ.enc),.is w.ins,.i w.used,.fz (x.objs.map aR.enc),.is x.tasks,.fz (x.outs.map bJ.enc),.is x.ins,.i x.used,.i e.task,.i e.act,.i e.n,.i e.v.kind,.i e.v.n]
def aGu (p:aI)(l:dB)(t:Nat):Val:=aUq (atX p l t).1 (bP p l t).1 (bP p l t).2.1
def T3 :List Nat:=[5,7,8]
def aTo (c0:Nat->Nat)(en en':En):Prop:= ∀n t g,(n≠0 \/t∉T3 \/g<c0 t)->en' ⟨n,t,g⟩=en ⟨n,t,g⟩
variable {c0:Nat->Nat}
theorem aTo.trans {x y z:En}(h:aTo c0 x y)(h':aTo c0 y z):aTo c0 x z:=fun n t g k=>(h' n t g k).trans (h n t g k)
def aTp (c0:Nat->Nat)(I:En->(Nat->Nat->Nat)->Prop):Prop:= ∀en cnt en' cnt',I en cnt->aTo c0 en en'->(∀n t,n≠0 \/t∉T3->cnt' n t=cnt n t)->(∀t∈T3,cnt 0 t<=cnt' 0 t)->I en' cnt'
theorem uV (ht:t∈T3)(hg:c0 t<=g):aTo c0 en (en.set ⟨0,t,g⟩ e):=by
 intro n u g' h
 refine pU fun he=>?_
 injection he with h1 h2 h3
 rcases h with h|h|h
 ·exact h h1
 ·exact h (h2▸ht)
 ·subst h2;omega
theorem wV (h:(bP p l t).2.2=0):(atX p l t).2=0/\ (eS p (atX p l t).1 (kS l t)).2.2=0/\ bP p l t=eS p (atX p l t).1 (kS l t):=by
 unfold bP at h⊢
 by_cases h1:(atX p l t).2=0
 ·rw[if_pos h1]at h⊢
  by_cases h2:(eS p (atX p l t).1 (kS l t)).2.2=0
  ·rw[if_pos h2];exact⟨h1,h2,rfl⟩
  ·rw[if_neg h2]at h;exact absurd h h2
 ·rw[if_neg h1]at h;exact absurd h h1
theorem aW2 (h1:(atX p l t).2=0)(h: ¬(bP p l t).2.2=0): ¬(eS p (atX p l t).1 (kS l t)).2.2=0/\ (bP p l t).2.2=(eS p (atX p l t).1 (kS l t)).2.2:=by
 unfold bP at h⊢;rw[if_pos h1]at h⊢
 by_cases h2:(eS p (atX p l t).1 (kS l t)).2.2=0
 ·rw[if_pos h2]at h;exact absurd h2 h
 ·rw[if_neg h2];exact⟨h2,rfl⟩
theorem aZ5 (h1: ¬(atX p l t).2=0):(bP p l t).2.2=(atX p l t).2:=by unfold bP;rw[if_neg h1]
theorem aHn (hl:rG l)(h:(bP p l t).2.2=0):(atX p l (t+1)).2=0/\ ((t+1)%aP l=0 \/(atX p l (t+1)).1=(bP p l t).1):=by
 obtain⟨h1,h2,h3⟩:=wV h
 by_cases hm:(t+1)%aP l=0
 ·rw[rF hl.e1 hm];exact⟨rfl,.inl hm⟩
 ·rw[aKh hl.e1 hm,if_pos h1,if_pos h2,h3];exact⟨rfl,.inr rfl⟩
theorem wW (h:t<l.picks.length):kS l t=l.picks[t]:=by simp[kS,h]
theorem aRm (h:mN p l=true)(hn:n<=l.picks.length)(he:(atX p l n).2=0):iJ p (atX p l n).1=true:=by
 have h1:=(qH h).1;have:=aOf (oL h1) h hn he;simp[iJ,h1,this]
theorem aKl (hsp:aV p=true)(h:iJ p w=true):w.few:=by
 simp only[iJ,bN8]at h;exact wS (tX hsp h.2)
variable {u a b:Nat}
theorem bMl (h:n≠0 \/u∉T3):aC (aC cnt 0 7 a) 0 8 b n u=cnt n u:=by
 simp only[aC];rw[if_neg,if_neg]
 ·rintro⟨rfl,rfl⟩;rcases h with h|h
  ·exact h rfl
  ·exact h (by decide)
 ·rintro⟨rfl,rfl⟩;rcases h with h|h
  ·exact h rfl
  ·exact h (by decide)
theorem aHo :cnt 0 u<=aC (aC cnt 0 7 (cnt 0 7+1)) 0 8 (cnt 0 8+1) 0 u:=by
 simp only[aC];split
 ·rename_i h;obtain⟨_,rfl⟩:=h;omega
 split
 ·rename_i h;obtain⟨_,rfl⟩:=h;omega
 ·exact bN9 _
theorem aRn (hpf:p.few)(hsp:aV p=true)(hok:mN p l=true){s:Nat}(has:a<=s)(hsb:s<=b)(hb:b<=l.picks.length)
  (hat:(atX p l a).2=0->PC L 63 [(ply p l),.i (a:Int)] (.agg (atX p l a).1.cs)) (hax: ¬(atX p l a).2=0->PX L 63 [(ply p l),.i (a:Int)] (aAr (atX p l a).2))
    {I:Nat->En->(Nat->Nat->Nat)->Prop} {R:Ex->St->Prop} (hst: ∀t,aTp c0 (I t))
  (hr: ∀t,a<=t->t<s->(bP p l t).2.2=0/\ ∀en cnt,I t en cnt->(∀u∈T3,c0 u<=cnt 0 u)->WIn L (.yld k) [.i (t:Int),aGu p l t] en cnt fun v en' cnt'=>v= .bool true/\ I (t+1) en' cnt'/\ (∀u g,u∈T3->g<cnt 0 u->c0 u<=g->en' ⟨0,u,g⟩=en ⟨0,u,g⟩)/\ ∀u∈T3,cnt 0 u<=cnt' 0 u)
  (hfin: ∀en cnt,I s en cnt->(∀u∈T3,c0 u<=cnt 0 u)->(s=b/\ ∀e fr,e= .normal \/e= .ret->R e ⟨fr,en,cnt⟩) \/
   (s<b/\ (bP p l s).2.2=0/\ WIn L (.yld k) [.i (s:Int),aGu p l s] en cnt fun v en' cnt'=>v= .bool false/\ ∀fr,R .ret ⟨fr,en',cnt'⟩) \/
   (s<b/\ ¬(bP p l s).2.2=0/\ ∀fr,R (.panic (aAr (bP p l s).2.2)) ⟨fr,en,cnt⟩))
    {en:En}{cnt:Nat->Nat->Nat}(h0:I a en cnt) (hc0: ∀u∈T3,c0 u<=cnt 0 u):
  Wp L aI0.body ⟨fun i=>[.yld k,.fp [.i (a:Int)] 0,.fp [.i (b:Int)] 0,.fp [(ply p l)] 0].getD i (.tup []),en,cnt⟩ R:=by
 have hl:=rG.of hok;simp only[go_sem,kK,aI0]
 by_cases hab:b<=a
 ·have:s=b:=by omega
  subst this;have:a=s:=by omega
  subst this;rcases hfin _ _ h0 hc0 with⟨_,h⟩|⟨h,_⟩|⟨h,_⟩
  ·simp only[go_sem,decide_eq_true hab];exact h _ _ (.inr rfl)
  ·omega
  ·omega
 simp only[go_sem,decide_eq_false hab]
 by_cases ha0:(atX p l a).2=0
 case neg=>
  have hs:s=a:=by
   rcases bP6 a s with h|h
   ·exact absurd (wV (hr a (bN9 _) h).1).1 ha0
   ·omega
  subst hs;rcases hfin _ _ h0 hc0 with⟨h,_⟩|⟨_,h,_⟩|⟨_,_,h⟩
  ·omega
  ·exact absurd (wV h).1 ha0
  ·rw[aZ5 ha0]at h
   refine eX 2 rfl ?_
   simp only[go_sem,bOp,bOm,(hax ha0).ret];exact h _
 refine cU ?_
 simp only[go_sem,(hat ha0).ret,kF];obtain⟨g5,hg5⟩: ∃g,g=cnt 0 5:=⟨_,rfl⟩
 rw[<-hg5];have hc5:c0 5<=g5:=by rw[hg5];exact hc0 5 (by decide)
 refine bH s (fun t st=> ∃fr en cnt w,st=⟨fr,en,cnt⟩/\ fr 0= .yld k/\ fr 1= .fp [.i (a:Int)] 0/\ fr 2= .fp [.i (b:Int)] 0/\ fr 3= .fp [(ply p l)] 0/\ fr 5= .ptr ⟨0,5,g5⟩ 0/\ fr 6= .i (t:Int)/\ en ⟨0,5,g5⟩=some (.box w.cs false)/\ (t%aP l=0 \/w=(atX p l t).1)/\ (atX p l t).2=0/\ I t en cnt/\ g5<cnt 0 5/\ a<=t/\ ∀u∈T3,c0 u<=cnt 0 u) a has ?_ ?_
 ·refine⟨_,_,_,(atX p l a).1,rfl,by simp only[go_sem],by simp only[go_sem],by simp only[go_sem],by simp only[go_sem],by simp only[go_sem],by simp only[go_sem],by simp only[go_sem],.inr rfl,ha0,?_,?_,bN9 _,?_⟩
  ·refine hst a _ _ _ _ h0 ((uV (by decide) (by omega)).trans (uV (by decide) (by omega))) (fun n t h=>?_) (fun u hu=>?_)
   ·simp only[aC];split
    ·rename_i h';obtain⟨rfl,rfl⟩:=h';rcases h with h|h
     ·exact absurd rfl h
     ·exact absurd (by decide) h
    ·rfl
   ·simp only[aC];split
    ·rename_i h';obtain⟨_,rfl⟩:=h';omega
    ·exact bN9 _
  ·simp only[aC];simp
  ·intro u hu;have:=hc0 u hu;simp only[aC];split
   ·rename_i h';obtain⟨_,rfl⟩:=h';omega
   ·exact this
 rintro t st hts ⟨fr,en,cnt,w,rfl,f0,f1,f2,f3,f5,f6,e5,hw,h0t,hI,hg,hta,hc⟩
 simp only[go_sem,kK,f6,f2]
 by_cases htb:t<b
 case neg=>
  have:s=b:=by omega
  subst this;have:t=s:=by omega
  subst this;simp only[go_sem,decide_eq_false htb];rcases hfin _ _ hI hc with⟨_,h⟩|⟨h,_⟩|⟨h,_⟩
  ·exact h _ _ (.inl rfl)
  ·omega
  ·omega
 have htp:t<l.picks.length:=by omega
 have hmk:=aMh (p:=p) (l:=l) t hl.e1 (by have:=hl.pk;omega) hl.ev
 have hgv:=aRm hok (bQ2 htp) h0t;obtain⟨y,hy⟩: ∃y,y=(atX p l t).1:=⟨_,rfl⟩
 rw[<-hy]at hw hgv
 by_cases hm:t%aP l=0
 case' pos=>
  have hlt:=hl.lt (bQ2 htp);have hia:=fun en=>qL (l:=l) (en:=en) hlt
  have hwm:l.marks[t/aP l]=y:=by rw[hy,rF hl.e1 hm,gQ hlt]
  simp only[go_sem,kK,decide_eq_true htb,f3,f6,hmk.ret,decide_eq_true hm];simp only[go_sem,f5,hl.ev,hl.ne,hl.div,hl.wdiv (bQ2 htp),hia,hwm,e5,kF];have e6:(en.set ⟨0,5,g5⟩ (some (.box y.cs false))) ⟨0,5,g5⟩=some (.box y.cs false):=by simp only[go_sem]
  have hI2:=hst t _ cnt _ cnt hI (uV (e:=some (.box y.cs false)) (t:=5) (g:=g5) (by decide) (by omega)) (fun _ _ _=>rfl) (fun _ _=>bN9 _)
  generalize En.set en _ _=en1 at e6 hI2⊢
 case' neg=>
  simp only[go_sem,kK,decide_eq_true htb,f3,f6,hmk.ret,decide_eq_false hm];have e6:=e5;rw[hw.resolve_left hm]at e6;have hI2:=hI;generalize en=en1 at e6 hI2⊢
 all_goals
  clear e5 hI hw
  by_cases hk:(bP p l t).2.2=0
  case neg=>
   obtain⟨hb1,hb2⟩:=aW2 h0t hk;rw[<-hy]at hb1 hb2;have hT:=aKk p l y (kS l t) hpf (aKl hsp hgv) hsp hgv hb1;rw[<-hb2,wW htp]at hT;have:t=s:=by
    rcases bP6 t s with h|h
    ·exact absurd (hr t hta h).1 hk
    ·omega
   subst this
   refine lY 10 rfl rfl ?_
   simp only[go_sem,bOp,bOm,bPk,bPj,rJ,f3,f5,f6,e6,htp,hT.ret,kA,kF]
   refine⟨rfl,?_⟩
   rcases hfin _ _ hI2 hc with⟨h,_⟩|⟨_,h,_⟩|⟨_,_,h⟩
   ·omega
   ·exact absurd h hk
   ·exact h _
  obtain⟨_,ht0,hta'⟩:=wV hk;rw[<-hy]at ht0 hta';have hT:=aKj p l y (kS l t) hpf (aKl hsp hgv) hsp hgv ht0;rw[<-hta',wW htp]at hT;obtain⟨x,hx⟩: ∃x,x=(bP p l t).1:=⟨_,rfl⟩
  obtain⟨e,he⟩: ∃e,e=(bP p l t).2.1:=⟨_,rfl⟩
  rw[<-hx,<-he]at hT
  refine kL ?_
  simp only[go_sem,f0,f3,f5,f6,e6,htp,hT.ret,evV,kA,kF];have hc7:=hc 7 (by decide)
  have hc8:=hc 8 (by decide)
  generalize hE:En.set (En.set (En.set (En.set en1 _ _) _ _) _ _) _ _=E;have ho:aTo c0 en1 E:=by rw[<-hE];exact(((uV (by decide) hc7).trans (uV (by decide) hc8)).trans (uV (by decide) hc7)).trans (uV (by decide) hc8)
  have E5:E ⟨0,5,g5⟩=some (.box y.cs false):=by rw[<-hE];simp only[go_sem,e6]
  have E7:E ⟨0,7,cnt 0 7⟩=some (.box [.fz (x.objs.map aR.enc),.is x.tasks,.fz (x.outs.map bJ.enc),.is x.ins,.i x.used] false):=by rw[<-hE];simp only[go_sem]
  have hI3:=hst t _ _ E (aC (aC cnt 0 7 (cnt 0 7+1)) 0 8 (cnt 0 8+1)) hI2 ho (fun n u h=>bMl h) (fun u _=>aHo)
  have hc3: ∀u∈T3,c0 u<=aC (aC cnt 0 7 (cnt 0 7+1)) 0 8 (cnt 0 8+1) 0 u:=fun u hu=>bOk (hc u hu) aHo
  have hd:aGu p l t=aUq y x e:=by rw[aGu,hy,hx,he]
  rcases bP6 t s with hlt|hge
  ·have hrt:=(hr t hta hlt).2 _ _ hI3 hc3;rw[hd]at hrt
   refine WIn.mono hrt ?_
   rintro v en' cnt' ⟨rfl,hI4,hin,hcc⟩
   have q5:=(hin 5 g5 (by decide) (bOy hg aHo) hc5).trans E5
   have q7:=(hin 7 (cnt 0 7) (by decide) (by simp[aC]) hc7).trans E7
   obtain⟨hn0,hn1⟩:=aHn hl hk;have hx1:(t+1)%aP l=0 \/x=(atX p l (t+1)).1:=hn1.imp_right fun h=>by rw[hx,h]
   simp only[go_sem,kK,f5,f6,q5,q7,bOn]
   refine⟨hlt,_,_,_,x,rfl,?_⟩
   simp only[go_sem,f0,f1,f2,f3,f5,aQ htp hl.few,hl.ev];exact⟨hx1,hn0,hst _ _ _ _ _ hI4 (uV (by decide) hc5) (fun _ _ _=>rfl) (fun _ _=>bN9 _),bOy hg (bOk aHo (hcc 5 (by decide))),by omega,fun u hu=>bOk (hc3 u hu) (hcc u hu)⟩
  ·have:t=s:=by omega
   subst this;rcases hfin _ _ hI3 hc3 with⟨h,_⟩|⟨_,_,hrt⟩|⟨_,h,_⟩
   ·omega
   ·rw[hd]at hrt
    refine WIn.mono hrt ?_
    rintro v en' cnt' ⟨rfl,hR⟩
    simp only[go_sem,kK,bOs];exact hR _
   ·exact absurd hk h
theorem aRo {e m:Nat}(he:1<=e)(h: ¬(m+1)%e=0):(m+1)/e=m/e:=by
 rw[Nat.succ_div,if_neg (fun h'=>h (Nat.mod_eq_zero_of_dvd h')),bPo]
theorem aFp {e:Nat}(h:n%e=0):n/e*e=n:=Nat.div_mul_cancel (Nat.dvd_of_mod_eq_zero h)
theorem aOi {p:aI}{l:dB}(hl:rG l): ∀n,(atX p l n).2=0-> ∀t,n/aP l*aP l<=t->t<n->(bP p l t).2.2=0
 |0,_,t,_,h=>by omega
 |m+1,h0,t,h1,h2=>by
  by_cases hm:(m+1)%aP l=0
  ·rw[aFp hm]at h1;omega
  ·rw[aKh hl.e1 hm]at h0
   by_cases ha:(atX p l m).2=0
   ·rw[if_pos ha]at h0
    by_cases ht:(eS p (atX p l m).1 (kS l m)).2.2=0
    ·rcases bP6 t m with h|h
     ·exact aOi hl m ha t (by rw[<-aRo hl.e1 hm];exact h1) h
     ·obtain rfl:t=m:=by omega
      unfold bP;rw[if_pos ha,if_pos ht];exact ht
    ·rw[if_neg ht]at h0;exact absurd h0 ht
   ·rw[if_neg ha]at h0;exact absurd h0 ha
theorem aOj {p:aI}{l:dB}(hl:rG l): ∀n,¬(atX p l n).2=0-> ∃s,n/aP l*aP l<=s/\ s<n/\ (∀t,n/aP l*aP l<=t->t<s->(bP p l t).2.2=0)/\ ¬(bP p l s).2.2=0/\ (bP p l s).2.2=(atX p l n).2
 |0,h=>by rw[rF hl.e1 (Nat.zero_mod _)]at h;exact absurd rfl h
 |m+1,h0=>by
  by_cases hm:(m+1)%aP l=0
  ·rw[rF hl.e1 hm]at h0;exact absurd rfl h0
  ·have hd:=aRo hl.e1 hm;have hle:=bRo m (aP l);rw[hd];have hs:=aKh (p:=p) hl.e1 hm;rw[hs]at h0⊢
   by_cases ha:(atX p l m).2=0
   ·rw[if_pos ha]at h0⊢
    by_cases ht:(eS p (atX p l m).1 (kS l m)).2.2=0
    ·rw[if_pos ht]at h0;exact absurd rfl h0
    ·rw[if_neg ht]at h0⊢;have hk:(bP p l m).2.2=(eS p (atX p l m).1 (kS l m)).2.2:=by unfold bP;rw[if_pos ha,if_neg ht]
     exact⟨m,hle,by omega,aOi hl m ha,by rw[hk];exact ht,hk⟩
   ·rw[if_neg ha]at h0⊢;obtain⟨s,h1,h2,h3,h4,h5⟩:=aOj hl m ha;exact⟨s,h1,by omega,h3,h4,h5⟩
def AtI (p:aI)(l:dB)(fr0:Nat->Val)(t:Nat)(en:En)(_:Nat->Nat->Nat):Prop:=
 (∃fr1,en ⟨1,0,0⟩=some (.loop fr1 [40,41] (bA.ops [o 8 (.alloc [.cl [],.cl [],.cl [],.cl [],.i 0,.cl [],.cl [],.cl [],.cl [],.i 0,.i 0,.i 0,.i 0,.i 0,.i 0]),sT 15 8 41]) (bA.block 1 (.ops [fA 42 5 8,lT 43 5 42,sT 5 6 43])) .ready)/\ fr1 6=fr0 6)/\ en ⟨0,4,0⟩=some (.box [.cl [],.cl [],.cl [],.cl [],.i 0] false)/\ ∃w,en ⟨0,6,0⟩=some (.box [.fz (w.objs.map aR.enc),.is w.tasks,.fz (w.outs.map bJ.enc),.is w.ins,.i w.used] false)/\ w=(atX p l t).1
variable {fr0:Nat->Val}
theorem aZ6 (t:Nat):aTp (fun _=>0) (AtI p l fr0 t):=by
 rintro en cnt en' cnt' ⟨⟨fr1,h1,hf⟩,h2,w,h3,h4⟩ ho _ _
 exact⟨⟨fr1,(ho 1 0 0 (.inl (by decide))).trans h1,hf⟩,(ho 0 4 0 (.inr (.inl (by decide)))).trans h2,w,(ho 0 6 0 (.inr (.inl (by decide)))).trans h3,h4⟩
theorem aZ7 (hf:fr0 6= .ptr ⟨0,6,0⟩ 0)(hn:(atX p l (t+1)).1=(bP p l t).1)(hI:AtI p l fr0 t en cnt):
  WIn L (.yld ⟨1,0,0⟩) [.i (t:Int),aGu p l t] en cnt fun v en' cnt'=>v= .bool true/\ AtI p l fr0 (t+1) en' cnt'/\ (∀u g,u∈T3->g<cnt 0 u->0<=g->en' ⟨0,u,g⟩=en ⟨0,u,g⟩)/\ ∀u∈T3,cnt 0 u<=cnt' 0 u:=by
 obtain⟨⟨fr1,h1,hf1⟩,h2,w,h3,h4⟩:=hI;rw[hf]at hf1
 refine aM9 (fr:=fr1) (ps:=[40,41]) (a:=(bA.ops [o 8 (.alloc [.cl [],.cl [],.cl [],.cl [],.i 0,.cl [],.cl [],.cl [],.cl [],.i 0,.i 0,.i 0,.i 0,.i 0,.i 0]),sT 15 8 41])) (b:=(bA.block 1 (.ops [fA 42 5 8,lT 43 5 42,sT 5 6 43]))) h1 rfl ?_
 simp only[go_sem,aGu,aUq,hf1,h1,h3]
 refine⟨⟨⟨_,by simp only[go_sem];rfl,?_⟩,by simp only[go_sem,h2],_,by simp only[go_sem],hn.symm⟩,fun u g hu hg _=>?_,fun u hu=>?_⟩
 ·simp only[go_sem,hf,hf1]
 ·simp only[T3,bO8,List.not_mem_nil,or_false]at hu;rcases hu with rfl|rfl|rfl
  ·simp only[go_sem]
  ·simp only[go_sem]
  ·simp only[go_sem,show¬g=cnt 0 8 by omega]
 ·simp only[aC];split
  ·rename_i h;obtain⟨_,rfl⟩:=h;omega
  ·exact bN9 _
theorem aUr (hpf:p.few)(hsp:aV p=true)(hok:mN p l=true)(hn:n<=l.picks.length):
  ((atX p l n).2=0->PC L 63 [.fp [.i l.every,.is l.picks,.fz (l.marks.map aB.enc),.fz (p.nodes.map aL.enc),.fz (p.funs.map (.int .i64)),.i p.main,.fz (p.cons.map cD.enc)] 0,.i (n:Int)] (.agg (atX p l n).1.cs))/\ (¬(atX p l n).2=0->PX L 63 [.fp [.i l.every,.is l.picks,.fz (l.marks.map aB.enc),.fz (p.nodes.map aL.enc),.fz (p.funs.map (.int .i64)),.i p.main,.fz (p.cons.map cD.enc)] 0,.i (n:Int)] (aAr (atX p l n).2)):=by
 have hl:=rG.of hok;obtain⟨a,ha⟩: ∃a,a=n/aP l*aP l:=⟨_,rfl⟩
 have han:a<=n:=by rw[ha];exact bRo ..
 have hma:a%aP l=0:=by rw[ha];exact Nat.mul_mod_left ..
 have hlt:=hl.lt hn;have hia:=fun en=>qL (l:=l) (en:=en) hlt
 have hmul:=hl.mul hn;rw[<-ha]at hmul;have ht:=vP p l a n;have hda:a/aP l=n/aP l:=by rw[ha];exact Nat.mul_div_cancel _ (by have:=hl.e1;omega)
 have hma0:=rF (p:=p) hl.e1 hma;have hat:=aTn (p:=p) hl (bOk han hn) hma;rw[hda]at hma0 hat;rw[gQ hlt]at hma0 hat;have hmw:l.marks[n/aP l]=(atX p l a).1:=by rw[hma0]
 have hnx: ∀t,a<=t->t<n->(bP p l t).2.2=0->(atX p l (t+1)).1=(bP p l t).1:=fun t h1 h2 h0=>by
  rcases(aHn hl h0).2 with h|h
  ·exfalso
   have h3:(t+1)/aP l*aP l=t+1:=aFp h;have h4:(t+1)/aP l<=n/aP l:=Nat.div_le_div_right h2;have h5:=bPd (aP l) h4;rw[h3,<-ha]at h5;omega
  ·exact h
 rw[hmw]at hat hia;have hT:=fun fr0 (hf:fr0 6= .ptr ⟨0,6,0⟩ 0) R s (h1:a<=s) (h2:s<=n) (h3: ∀t,a<=t->t<s->(bP p l t).2.2=0)=>aRn (R:=R) (k:=⟨1,0,0⟩) (c0:=fun _=>0) (I:=AtI p l fr0) hpf hsp hok h1 h2 hn (fun _=>hat) (fun h=>absurd (by rw[hma0]) h) aZ6
  (fun t q1 q2=>⟨h3 t q1 q2,fun en cnt hI _=>aZ7 hf (hnx t q1 (bOy q2 h2) (h3 t q1 q2)) hI⟩)
 simp only[ply,hl.ev]at ht hat hT⊢
 refine⟨fun h0=>?_,fun h0=>?_⟩
 ·have hL:=at_ Tryz.func63
  conv at hL=>rhs;reduce
  refine aH hL rfl rfl ?_
  simp only[go_sem,kK,hl.ne,hl.div,hl.wdiv hn,hmul,kF]
  refine aJ ?_
  simp only[go_sem,hl.ne,hl.div,hl.wdiv hn,hia,kA,kF];simp only[go_sem,ht.ret]
  refine zM (by simp only[go_sem];rfl) ?_
  rintro fr0 k hf hk
  obtain rfl:k=⟨1,0,0⟩:=hk
  refine bO aLs rfl rfl ?_
  refine hT fr0 (by rw[hf];simp only[go_sem]) _ n han (bN9 n) (fun t h1 h2=>aOi hl n h0 t (by rw[<-ha];exact h1) h2) (fun en cnt hI _=> .inl ⟨rfl,fun e fr he=>?_⟩) ?_ (fun _ _=>bOf _)
  ·obtain⟨⟨fr1,i1,_⟩,i4,w,i6,rfl⟩:=hI
   refine⟨by rcases he with rfl|rfl<;>rfl,?_⟩
   simp only[go_sem,aI0,i1,i4,i6]
  ·refine⟨⟨_,by simp only[go_sem],rfl⟩,by simp only[go_sem],_,by simp only[go_sem],rfl⟩
 ·obtain⟨s,h1,h2,h3,h4,h5⟩:=aOj hl n h0;rw[<-ha]at h1 h3;have hL:=at_ Tryz.func63
  conv at hL=>rhs;reduce
  refine aIp hL rfl rfl ?_
  simp only[go_sem,kK,hl.ne,hl.div,hl.wdiv hn,hmul,kF]
  refine aJ ?_
  simp only[go_sem,hl.ne,hl.div,hl.wdiv hn,hia,kA,kF];simp only[go_sem,ht.ret]
  refine aLp (by simp only[go_sem];rfl) ?_
  rintro fr0 k hf hk
  obtain rfl:k=⟨1,0,0⟩:=hk
  refine bW aLs rfl rfl ?_
  refine hT fr0 (by rw[hf];simp only[go_sem]) _ s h1 (bQ2 h2) h3 (fun en cnt hI _=> .inr (.inr ⟨h2,h4,fun fr=>?_⟩)) ?_ (fun _ _=>bOf _)
  ·rw[h5]
   done
  ·refine⟨⟨_,by simp only[go_sem],rfl⟩,by simp only[go_sem],_,by simp only[go_sem],rfl⟩
set_option maxRecDepth 100000
set_option maxHeartbeats 4000000
theorem aUs (p:aI)(l:dB):aFn p l=mN p l:=by
 rw[bQh];simp only[aFn,mN,iJ,inR,aP,bN8,bPg,Bool.or_eq_false_iff,Bool.not_eq_false',bRt,bRu,bOe];constructor
 ·rintro⟨⟨⟨⟨h1,h2⟩,h3⟩,h4⟩,h5⟩
  have hd:(l.marks.length:Int)=((l.picks.length/l.every.toNat+1:Nat):Int):=by
   rw[h4,bRs (by omega)]
   have:l.every=(l.every.toNat:Int):=by omega
   rw[this];rfl
  have hl:l.marks.length=l.picks.length/l.every.toNat+1:=by exact_mod_cast hd
  have hne:l.marks≠[]:=by intro h;rw[h]at hl;simp at hl
  obtain⟨w,hw⟩:=List.exists_mem_of_ne_nil _ hne;exact⟨⟨⟨⟨(h5 w hw).1,by omega⟩,by omega⟩,decide_eq_true hl⟩,fun w hw=>(h5 w hw).2⟩
 ·rintro⟨⟨⟨⟨h1,h2⟩,h3⟩,h4⟩,h5⟩
  refine⟨⟨⟨⟨by omega,by omega⟩,by omega⟩,?_⟩,fun w hw=>⟨h1,h5 w hw⟩⟩
  rw[of_decide_eq_true h4,bRs (by omega)]
  have:l.every=(l.every.toNat:Int):=by omega
  rw[this];rfl
theorem aRp (h:0<l.marks.length):oP 5 en (.fz (l.marks.map aB.enc)) (.i 0)=some {v:= .fp [.fz (l.marks[0].objs.map aR.enc),.is l.marks[0].tasks,.fz (l.marks[0].outs.map bJ.enc),.is l.marks[0].ins,.i l.marks[0].used] 0}:=qL h
def pY (p:aI)(l:dB)(t:Nat):Prop:=(t+1)%aP l=0/\ ¬(bP p l t).1=pR l ((t+1)/aP l)
instance (p :aI)(l:dB)(t:Nat):Decidable (pY p l t):=by unfold pY;exact inferInstance
theorem aCs {p:aI}{l:dB}: ∀(k t:Nat),
  (∃s,t<=s/\ s<t+k/\ (∀u,t<=u->u<s->(bP p l u).2.2=0/\ ¬pY p l u)/\ aAq p l t k=(s:Int)+1/\ (¬(bP p l s).2.2=0 \/(bP p l s).2.2=0/\ pY p l s)) \/
  ((∀u,t<=u->u<t+k->(bP p l u).2.2=0/\ ¬pY p l u)/\ aAq p l t k= -1)
 |0,t=> .inr ⟨fun u h1 h2=>by omega,rfl⟩
 |k+1,t=>by
  rw[aAq]
  by_cases h1:(bP p l t).2.2=0
  ·rw[if_pos h1]
   by_cases h2:pY p l t
   ·rw[if_pos (show _/\ _ from h2)]
    exact .inl ⟨t,bN9 _,by omega,fun u q1 q2=>by omega,rfl,.inr ⟨h1,h2⟩⟩
   ·rw[if_neg (show¬(_/\ _)from h2)]
    rcases aCs k (t+1)with⟨s,q1,q2,q3,q4⟩|⟨q1,q2⟩
    ·refine .inl ⟨s,by omega,by omega,fun u r1 r2=>?_,q4⟩
     rcases bP6 t u with h|h
     ·exact q3 u h r2
     ·obtain rfl:u=t:=by omega
      exact⟨h1,h2⟩
    ·refine .inr ⟨fun u r1 r2=>?_,q2⟩
     rcases bP6 t u with h|h
     ·exact q1 u h (by omega)
     ·obtain rfl:u=t:=by omega
      exact⟨h1,h2⟩
  ·rw[if_neg h1];exact .inl ⟨t,bN9 _,by omega,fun u q1 q2=>by omega,rfl,.inl h1⟩
def WrI (p:aI)(l:dB)(t:Nat)(en:En)(_:Nat->Nat->Nat):Prop:=
 (∃fr1,en ⟨1,0,0⟩=some (.loop fr1 [39,40] (bA.seq (.ops [mT 7 39]) (.ops [o 8 (.alloc [.cl [],.cl [],.cl [],.cl [],.i 0,.cl [],.cl [],.cl [],.cl [],.i 0,.i 0,.i 0,.i 0,.i 0,.i 0]),sT 15 8 40])) (bA.block 1 (.seq (.ops [mT 41 7,bN 42 .add (.t 41) (cI 1),sT 1 2 42]) (.seq (.seq (.draw [l1 43 1,l1 44 2,cL 45 107 [.t 43,.t 44],mT 46 45,gF 47 46 true 5 8,gT 48 46 true 5 47,g1 49 46 true 1,og 50 46 true (.nilck (.t 49)),gF 51 46 true 0 50,gF 52 46 true 2 51,g1 53 46 true 52,g1 54 46 true 2,g1 55 46 true 1,og 56 46 true (.nilck (.t 55)),gF 57 46 true 0 56,gF 58 46 true 0 57,g1 59 46 true 58,gB 60 46 true .quo (.t 54) (.t 59),og 61 46 true (.ia 5 (.t 53) (.t 60)),gT 62 46 true 5 61,gL 63 46 true 114 [.t 48,.t 62],og 64 46 true (.un .not (.t 63)),pA 65 46 64] []) (.cond (.t 65) (.seq (.ops [l1 66 2,sT 1 2 66]) .ret) .skip)) (.ops [l1 67 2,bN 68 .add (.t 67) (cI 1),sT 1 2 68])))) .ready)/\ fr1 1= .ptr ⟨0,1,0⟩ 0/\ fr1 2= .ptr ⟨0,2,0⟩ 0)/\ en ⟨0,1,0⟩=some (.box [(ply p l)] false)/\ en ⟨0,2,0⟩=some (.box [.i ((t:Int)+1)] false)/\ en ⟨0,3,0⟩=some (.box [.i 0] false)
theorem aZ8 (t:Nat):aTp (fun _=>0) (WrI p l t):=by
 rintro en cnt en' cnt' ⟨⟨fr1,h1,hf⟩,h2,h3,h4⟩ ho _ _
 exact⟨⟨fr1,(ho 1 0 0 (.inl (by decide))).trans h1,hf⟩,(ho 0 1 0 (.inr (.inl (by decide)))).trans h2,(ho 0 2 0 (.inr (.inl (by decide)))).trans h3,(ho 0 3 0 (.inr (.inl (by decide)))).trans h4⟩
theorem aRq (hl:rG l)(ht:t<l.picks.length)(hfw:(bP p l t).1.few)(hI:WrI p l t en cnt):
  WIn L (.yld ⟨1,0,0⟩) [.i (t:Int),aGu p l t] en cnt fun v en' cnt'=>(v= .bool (!decide (pY p l t)))/\ (¬pY p l t->WrI p l (t+1) en' cnt')/\
   (pY p l t->(∃fr1,en' ⟨1,0,0⟩=some (.loop fr1 [39,40] (bA.seq (.ops [mT 7 39]) (.ops [o 8 (.alloc [.cl [],.cl [],.cl [],.cl [],.i 0,.cl [],.cl [],.cl [],.cl [],.i 0,.i 0,.i 0,.i 0,.i 0,.i 0]),sT 15 8 40])) (bA.block 1 (.seq (.ops [mT 41 7,bN 42 .add (.t 41) (cI 1),sT 1 2 42]) (.seq (.seq (.draw [l1 43 1,l1 44 2,cL 45 107 [.t 43,.t 44],mT 46 45,gF 47 46 true 5 8,gT 48 46 true 5 47,g1 49 46 true 1,og 50 46 true (.nilck (.t 49)),gF 51 46 true 0 50,gF 52 46 true 2 51,g1 53 46 true 52,g1 54 46 true 2,g1 55 46 true 1,og 56 46 true (.nilck (.t 55)),gF 57 46 true 0 56,gF 58 46 true 0 57,g1 59 46 true 58,gB 60 46 true .quo (.t 54) (.t 59),og 61 46 true (.ia 5 (.t 53) (.t 60)),gT 62 46 true 5 61,gL 63 46 true 114 [.t 48,.t 62],og 64 46 true (.un .not (.t 63)),pA 65 46 64] []) (.cond (.t 65) (.seq (.ops [l1 66 2,sT 1 2 66]) .ret) .skip)) (.ops [l1 67 2,bN 68 .add (.t 67) (cI 1),sT 1 2 68])))) (.done .ret)))/\ en' ⟨0,2,0⟩=some (.box [.i ((t:Int)+1)] false)/\ en' ⟨0,3,0⟩=some (.box [.i 0] false))/\
   (∀u g,u∈T3->g<cnt 0 u->0<=g->en' ⟨0,u,g⟩=en ⟨0,u,g⟩)/\ ∀u∈T3,cnt 0 u<=cnt' 0 u:=by
 obtain⟨⟨fr1,h1,q1,q2⟩,h2,h3,h4⟩:=hI;have hpk:=hl.pk;have hw1:IntKind.i64.wrap ((t:Int)+1)=((t+1:Nat):Int):=aQ ht hl.few;have hw2:IntKind.i64.wrap (((t+1:Nat):Int)+1)=((t+1:Nat):Int)+1:=aY (by omega)
 have hmk:=aMh (p:=p) (l:=l) (t+1) hl.e1 (by omega) hl.ev
 have hlt:=hl.lt (n:=t+1) ht;have hia:=fun en=>qL (l:=l) (en:=en) hlt
 have hsame:=aOh (bP p l t).1 (pR l ((t+1)/aP l)) hfw;have hbd:decide (pY p l t)=(decide ((t+1)%aP l=0)&&!decide ((bP p l t).1=pR l ((t+1)/aP l))):=by rw[bQh,bRt];simp[pY]
 rw[hbd]
 refine aM9 (fr:=fr1) (ps:=[39,40]) (a:=(bA.seq (.ops [mT 7 39]) (.ops [o 8 (.alloc [.cl [],.cl [],.cl [],.cl [],.i 0,.cl [],.cl [],.cl [],.cl [],.i 0,.i 0,.i 0,.i 0,.i 0,.i 0]),sT 15 8 40]))) (b:=(bA.block 1 (.seq (.ops [mT 41 7,bN 42 .add (.t 41) (cI 1),sT 1 2 42]) (.seq (.seq (.draw [l1 43 1,l1 44 2,cL 45 107 [.t 43,.t 44],mT 46 45,gF 47 46 true 5 8,gT 48 46 true 5 47,g1 49 46 true 1,og 50 46 true (.nilck (.t 49)),gF 51 46 true 0 50,gF 52 46 true 2 51,g1 53 46 true 52,g1 54 46 true 2,g1 55 46 true 1,og 56 46 true (.nilck (.t 55)),gF 57 46 true 0 56,gF 58 46 true 0 57,g1 59 46 true 58,gB 60 46 true .quo (.t 54) (.t 59),og 61 46 true (.ia 5 (.t 53) (.t 60)),gT 62 46 true 5 61,gL 63 46 true 114 [.t 48,.t 62],og 64 46 true (.un .not (.t 63)),pA 65 46 64] []) (.cond (.t 65) (.seq (.ops [l1 66 2,sT 1 2 66]) .ret) .skip)) (.ops [l1 67 2,bN 68 .add (.t 67) (cI 1),sT 1 2 68]))))) h1 rfl ?_
 simp only[go_sem,kK,aGu,aUq,h1,q1,q2,h2,h3,hw1,kF]
 by_cases hm:(t+1)%aP l=0
 ·simp only[ply,hl.ev]at hmk;rw[gQ hlt]at hsame⊢;simp only[go_sem,kK,q1,q2,h2,hmk.ret,decide_eq_true hm,hl.ev,hl.ne,hl.div,hl.wdiv ht,hia,hsame.ret,bO3,kF]
  by_cases he:(bP p l t).1=l.marks[(t+1)/aP l]
  ·simp only[go_sem,decide_eq_true he,q2,h4,hw2,bOn];have hnb: ¬pY p l t:=fun h=>h.2 (by rw[gQ hlt];exact he)
   exact⟨fun _=>⟨⟨_,by simp only[go_sem];rfl,by simp only[go_sem,q1],by simp only[go_sem,q2]⟩,by simp only[go_sem,h2],by simp only[go_sem],by simp only[go_sem,h4]⟩,fun h=>absurd h hnb,fun u g hu hg _=>by simp only[T3,bO8,List.not_mem_nil,or_false]at hu;rcases hu with rfl|rfl|rfl;(simp only[go_sem]);(simp only[go_sem]);(simp only[go_sem,show¬g=cnt 0 8 by omega]),fun u _=>by simp only[aC];split;(rename_i h;obtain⟨_,rfl⟩:=h;omega);exact bN9 _⟩
  ·simp only[go_sem,kK,decide_eq_false he,q2,h4,bOs];have hnb:pY p l t:=⟨hm,by rw[gQ hlt];exact he⟩
   exact⟨rfl,fun h=>absurd hnb h,fun _=>⟨⟨_,rfl⟩,rfl⟩,fun u g hu hg _=>by simp only[T3,bO8,List.not_mem_nil,or_false]at hu;rcases hu with rfl|rfl|rfl;(simp only[go_sem]);(simp only[go_sem]);(simp only[go_sem,show¬g=cnt 0 8 by omega]),fun u _=>by simp only[aC];split;(rename_i h;obtain⟨_,rfl⟩:=h;omega);exact bN9 _⟩
 ·simp only[go_sem,kK,q2,h4,hmk.ret,decide_eq_false hm,hw2,bOx];have hnb: ¬pY p l t:=fun h=>hm h.1
  exact⟨fun _=>⟨⟨_,by simp only[go_sem];rfl,by simp only[go_sem,q1],by simp only[go_sem,q2]⟩,by simp only[go_sem,h2],by simp only[go_sem],by simp only[go_sem,h4]⟩,fun h=>absurd h hnb,fun u g hu hg _=>by simp only[T3,bO8,List.not_mem_nil,or_false]at hu;rcases hu with rfl|rfl|rfl;(simp only[go_sem]);(simp only[go_sem]);(simp only[go_sem,show¬g=cnt 0 8 by omega]),fun u _=>by simp only[aC];split;(rename_i h;obtain⟨_,rfl⟩:=h;omega);exact bN9 _⟩
theorem aFq (hsp:aV p=true)(hok:mN p l=true)(ht:t<l.picks.length)(h0:(bP p l t).2.2=0):(bP p l t).1.few:=by
 obtain⟨h1,h2,h3⟩:=wV h0;rw[h3];have hf:=(qH hok).1;exact wS (tX hsp (aRj (oL hf) (aOf (oL hf) hok (bQ2 ht) h1) _))
theorem aGv (hok:mN p l=true):iJ p (pR l 0)=true:=by
 have:=aRm hok (bOf _) (by rw[rF (rG.of hok).e1 (Nat.zero_mod _)])
 rwa [rF (rG.of hok).e1 (Nat.zero_mod _),Nat.zero_div]at this
theorem aZ9 (hpf:p.few)(hsp:aV p=true)(hok:mN p l=true):PC L 56 [(ply p l)] (.i (vN p l)):=by
 have hl:=rG.of hok;have h0m:=hl.lt (bOf l.picks.length);rw[Nat.zero_div]at h0m;have hia:=fun en=>aRp (l:=l) (en:=en) h0m
 have hg0:=aGv hok;rw[gQ h0m]at hg0;have hS:=aKi p l.marks[0] hpf (aKl hsp hg0) hsp;have hw:=vP p l 0 l.picks.length;have hpk:=hl.pk;unfold vN;rw[gQ h0m];have hT:=fun R (s:Nat) (h1:s<=l.picks.length) (h2: ∀u,0<=u->u<s->(bP p l u).2.2=0/\ ¬pY p l u)=>aRn (R:=R) (a:=0) (k:=⟨1,0,0⟩) (c0:=fun _=>0) (I:=WrI p l) hpf hsp hok (bOf s) h1 (bN9 _) (aUr hpf hsp hok (bOf _)).1 (aUr hpf hsp hok (bOf _)).2 aZ8
  (fun t q1 q2=>⟨(h2 t q1 q2).1,fun en cnt hI _=>(aRq hl (by omega) (aFq hsp hok (by omega) (h2 t q1 q2).1) hI).mono fun v en' cnt' ⟨r1,r2,_,r4,r5⟩=>⟨by rw[r1,decide_eq_false (h2 t q1 q2).2];rfl,r2 (h2 t q1 q2).2,r4,r5⟩⟩)
 have hL:=at_ Tryz.func56
 conv at hL=>rhs;reduce
 refine aH hL rfl rfl ?_
 simp only[go_sem,kK,kF]
 refine aTi ?_
 simp only[go_sem,kK]
 refine aJ ?_
 simp only[go_sem,kK,hia,hS.ret,kA,kF]
 by_cases hs:(cJ p l.marks[0] 0).2.2=true
 case neg=>
  rw[if_neg (fun h=>hs h.1)]
  have e2:(sC p l.marks[0]).2.2=8:=by unfold sC;rw[if_pos hg0,if_neg hs]
  simp only[go_sem,kK,e2]
  refine⟨rfl,oO rfl ?_⟩
  simp only[go_sem]
 have e2:(sC p l.marks[0]).2.2=0/\ (sC p l.marks[0]).2.1=(cJ p l.marks[0] 0).2.1:=by unfold sC;rw[if_pos hg0,if_pos hs];exact⟨rfl,rfl⟩
 by_cases hz:(cJ p l.marks[0] 0).2.1=0
 case neg=>
  rw[if_neg (fun h=>hz h.2)]
  simp only[go_sem,kK,e2.1,e2.2,show decide ((0:Int)<((cJ p l.marks[0] 0).2.1:Int))=true from decide_eq_true (by omega),kF]
  refine⟨rfl,oO rfl ?_⟩
  simp only[go_sem]
 rw[if_pos ⟨hs,hz⟩];simp only[go_sem,kK,e2.1,e2.2,show decide ((0:Int)<((cJ p l.marks[0] 0).2.1:Int))=false from decide_eq_false (by omega),bOc,hw.ret,kF]
 rcases aCs (p:=p) (l:=l) l.picks.length 0 with⟨s,q1,q2,q3,q4,q5|⟨q5,q6⟩⟩|⟨q3,q4⟩
 ·rw[q4]
  refine aLp (by simp only[go_sem];rfl) ?_
  rintro fr0 k hf hk
  obtain rfl:k=⟨1,0,0⟩:=hk
  refine bW aLs rfl rfl ?_
  refine hT _ s (by omega) q3 (fun en cnt hI _=> .inr (.inr ⟨by omega,q5,fun fr=>?_⟩)) ?_ (fun _ _=>bOf _)
  ·obtain⟨⟨fr1,i1,_⟩,i2,i3,i4⟩:=hI;simp only[go_sem]
   refine⟨rfl,aEq (x:= .i 0) rfl ?_⟩
   have hL:=at_ Tryz.func113
   conv at hL=>rhs;reduce
   refine bO hL rfl rfl ?_
   simp only[go_sem,i3,i4]
  ·exact⟨⟨fr0,by simp only[go_sem],by rw[hf];simp only[go_sem],by rw[hf];simp only[go_sem]⟩,by simp only[go_sem],by simp only[go_sem],by simp only[go_sem]⟩
 ·rw[q4]
  refine zM (by simp only[go_sem];rfl) ?_
  rintro fr0 k hf hk
  obtain rfl:k=⟨1,0,0⟩:=hk
  refine bO aLs rfl rfl ?_
  refine hT _ s (by omega) q3 (fun en cnt hI _=> .inr (.inl ⟨by omega,q5,(aRq hl (by omega) (aFq hsp hok (by omega) q5) hI).mono fun v en' cnt' ⟨r1,_,r3,_,_⟩=>⟨by rw[r1,decide_eq_true q6];rfl,fun fr=>?_⟩⟩)) ?_ (fun _ _=>bOf _)
  ·obtain⟨⟨fr1,i1⟩,i3,i4⟩:=r3 q6
   refine⟨rfl,?_⟩
   simp only[go_sem,aI0,i1]
   refine⟨rfl,oO rfl ?_⟩
   simp only[go_sem,i3]
  ·exact⟨⟨fr0,by simp only[go_sem],by rw[hf];simp only[go_sem],by rw[hf];simp only[go_sem]⟩,by simp only[go_sem],by simp only[go_sem],by simp only[go_sem]⟩
 ·rw[q4]
  refine zM (by simp only[go_sem];rfl) ?_
  rintro fr0 k hf hk
  obtain rfl:k=⟨1,0,0⟩:=hk
  refine bO aLs rfl rfl ?_
  refine hT _ l.picks.length (bN9 _) (fun u r1 r2=>q3 u r1 (by omega)) (fun en cnt hI _=> .inl ⟨rfl,fun e fr he=>?_⟩) ?_ (fun _ _=>bOf _)
  ·obtain⟨⟨fr1,i1,_⟩,i2,i3,i4⟩:=hI
   refine⟨by rcases he with rfl|rfl<;>rfl,?_⟩
   simp only[go_sem,aI0,i1,i3]
   refine⟨rfl,oO rfl ?_⟩
   simp only[go_sem]
  ·exact⟨⟨fr0,by simp only[go_sem],by rw[hf];simp only[go_sem],by rw[hf];simp only[go_sem]⟩,by simp only[go_sem],by simp only[go_sem],by simp only[go_sem]⟩
def aHp (p:aI)(l:dB):Int×Int:=if mN p l=true then(if 0<=vN p l then(vN p l,7)else(0,0))else(0,2)
theorem aKm (hpf:p.few)(hlf:l.few)(hsp:aV p=true):PC L 11 [.agg p.cs,.agg l.cs] (.tup [.i (aHp p l).1,.i (aHp p l).2]):=by
 unfold aHp;have hL:=at_ Tryz.func11
 conv at hL=>rhs;reduce
 refine aH hL rfl rfl ?_
 simp only[go_sem,kK,kF]
 refine aTi ?_
 simp only[go_sem,kK]
 by_cases hok:mN p l=true
 case neg=>
  rw[if_neg hok]
  refine eX 2 rfl ?_
  simp only[go_sem,bOp,bOm,(aW0 p l hpf hlf hsp (by rw[aUs];simpa using hok)).ret]
  refine⟨rfl,aEq (x:= .i 0) rfl ?_⟩
  have hL:=at_ Tryz.func54
  conv at hL=>rhs;reduce
  refine bO hL rfl rfl ?_
  simp only[go_sem]
 have hP:=aWz p l hpf hlf hsp (by rw[aUs];exact hok)
 rw[if_pos hok]
 refine cU ?_
 simp only[go_sem,kK,hP.ret,(aZ9 hpf hsp hok).ret,kF]
 by_cases h0:0<=vN p l
 ·rw[if_pos h0];simp only[go_sem,decide_eq_false (show¬vN p l<0 by omega)]
  refine⟨rfl,oO rfl ?_⟩
  simp only[go_sem]
 ·rw[if_neg h0];simp only[go_sem,kK,decide_eq_true (show vN p l<0 by omega)]
  refine⟨rfl,oO rfl ?_⟩
  simp only[go_sem]
def atR (p:aI)(l:dB)(n:Int):aB×Int×Int:=
 if mN p l=true/\ 0<=n/\ n<=(l.picks.length:Int)then(if(atX p l n.toNat).2=0 then((atX p l n.toNat).1,n%(aP l:Int),0)else(aB3,0,(atX p l n.toNat).2))else(aB3,0,2)
def bAa (act:Int):Prop:=act=17 \/act=18 \/act=22 \/act=23 \/act=20
instance {act :Int}:Decidable (bAa act):=by unfold bAa;infer_instance
def bMm (p:aI)(w:aB)(e:lQ):Int:=
 if bAa e.act then bFg (cJ p w 0).1 e.task else if e.act=16 \/e.act=21 \/e.act=19 then((cJ p w 0).1.objs.length:Int)else-1
def aRr (p:aI)(l:dB)(object:Int)(t:Nat):Prop:=((bP p l t).2.1.act=16 \/(bP p l t).2.1.act=18)/\ bMm p (atX p l t).1 (bP p l t).2.1=object
instance {p :aI}{l:dB}{object:Int}{t:Nat}:Decidable (aRr p l object t):=by unfold aRr;infer_instance
structure bH9 (w w':aB):Prop where
 le:w.objs.length<=w'.objs.length
 same: ∀i:Nat,i<w.objs.length->w'.obj i=w.obj i \/((w.obj i).form=6/\ (w'.obj i).form=6)
section
variable {w':aB}(h:bH9 w w')(hin:bBl w)
include h
end
set_option maxRecDepth 100000
set_option maxHeartbeats 4000000
theorem aFr (n lo hi:Int):PC L 57 [.i n,.i lo,.i hi] (.bool (inR n lo hi)):=by
 have hL:=at_ Tryz.func57
 conv at hL=>rhs;reduce
 refine aH hL rfl rfl ?_
 simp only[go_sem,qW]
 refine bB (fun h=>?_) (fun h=>?_)<;>simp only[go_sem,h]<;>simp at h<;>simp[h,inR]
 omega
theorem aGw (hp:dV p)(hsp:aV p=true)(hw:dO p w=true)(pick:Int):
  PC L 70 [.agg p.cs,.agg w.cs,.i pick] (.tup [.agg (eS p w pick).1.cs,evV (eS p w pick).2.1,.i (eS p w pick).2.2]):=by
 have hT:=bBx hp hsp (aHm hw) pick;have hL:=at_ Tryz.func70
 conv at hL=>rhs;reduce
 refine aH hL rfl rfl ?_
 simp only[go_sem,kK,hT.ret,evV,kF];unfold eS
 simp only
 by_cases h5:(fW p w pick).2.2.2=5
 ·rw[if_pos h5];simp only[go_sem,kK,decide_eq_true h5,gR,kR]
 rw[if_neg h5]
 by_cases h0:(fW p w pick).2.2.2=0
 ·rw[if_pos h0];simp only[go_sem,kK,h0]
  refine aJ ?_
  simp only[go_sem,kA,kF]
 ·rw[if_neg h0];simp only[go_sem,kK,decide_eq_false h5,decide_eq_false h0,gR,kR,bOs]
theorem aTq (hpf:p.few)(hlf:l.few)(hc:p.cons.length<=1000):PC L 12 [.agg p.cs,.agg [.i l.every,.is l.picks,.fz (l.marks.map aB.enc)]] (.bool (mN p l)):=by
 have hF:=aKy p hpf hc;have hlog:mN p l=(eY p&&inR l.every 1 20&&decide (l.picks.length<=200)&&decide (l.marks.length=l.picks.length/aP l+1)&&l.marks.all (dO p)):=rfl;have hL:=at_ Tryz.func12
 conv at hL=>rhs;reduce
 refine aH hL rfl rfl ?_
 cases hf:eY p with
 |false=>rw[hf]at hF hlog;rw[hlog];simp only[go_sem,kK,hF.ret,bOs,bOx,kF]
 |true=>
 cases he:inR l.every 1 20 with
 |false=>rw[hf]at hF hlog;rw[he]at hlog;rw[hlog];simp only[go_sem,kK,hF.ret,(aFr _ _ _).ret,he,bOs,bOn,bOx,bPp,kF]
 |true=>
 rw[hf]at hF hlog;rw[he]at hlog;rw[hlog]
 by_cases hk:l.picks.length<=200
 case neg=>simp only[go_sem,kK,hF.ret,(aFr _ _ _).ret,he,bOc,decide_eq_false hk,show decide ((200:Int)<(l.picks.length:Int))=true from decide_eq_true (by omega),bOn,bOx,bPp,kF]
 have hev:l.every=(aP l:Int):=by simp only[inR,bRt]at he;unfold aP;omega
 have h1:1<=aP l:=by simp only[inR,bRt]at he;unfold aP;omega
 have hdv:((l.picks.length:Int)).tdiv (aP l:Int)=((l.picks.length/aP l:Nat):Int):=by rw[bRs (by omega)];rfl
 have hle:=Nat.div_le_self l.picks.length (aP l);have hw1:IntKind.i64.wrap (((l.picks.length/aP l:Nat):Int))=((l.picks.length/aP l:Nat):Int):=by generalize l.picks.length/aP l=q at hle⊢;exact aY (by omega)
 have hw2:IntKind.i64.wrap (((l.picks.length/aP l:Nat):Int)+1)=((l.picks.length/aP l+1:Nat):Int):=by generalize l.picks.length/aP l=q at hle⊢;rw[aY (by omega)];rfl
 have hne: ¬(aP l:Int)=0:=by omega
 have hk':decide ((200:Int)<(l.picks.length:Int))=false:=decide_eq_false (by omega)
 rw[hev]at he;simp only[go_sem,kK,hF.ret,(aFr _ _ _).ret,hev,he,bOc,decide_eq_true hk,hk',hne,hdv,hw1,hw2,bOn,bO3,bQa,kF]
 by_cases hm:l.marks.length=l.picks.length/aP l+1
 case neg=>simp only[go_sem,kK,decide_eq_false hm,bOs,bOx]
 simp only[go_sem,decide_eq_true hm,bOn,bO3]
 refine bH l.marks.length (fun k st=> ∃fr en cnt,st=⟨fr,en,cnt⟩/\ fr 2= .ptr ⟨0,2,0⟩ 0/\ fr 3= .ptr ⟨0,3,0⟩ 0/\ fr 5= .i (k:Int)/\ en ⟨0,2,0⟩=some (.box [.fz (p.nodes.map aL.enc),.fz (p.funs.map (.int .i64)),.i p.main,.fz (p.cons.map cD.enc)] false)/\ en ⟨0,3,0⟩=some (.box [.i (aP l:Int),.is l.picks,.fz (l.marks.map aB.enc)] false)/\ (l.marks.drop k).all (dO p)=l.marks.all (dO p)) 0 (bOf _) ⟨_,_,_,rfl,by simp only[go_sem],by simp only[go_sem],by simp only[go_sem],by simp only[go_sem],by simp only[go_sem],rfl⟩ ?_
 rintro k st hk ⟨fr,en,cnt,rfl,f2,f3,f5,e2,e3,hI⟩
 simp only[go_sem,kK,f3,f5,e3,bOc]
 refine aD (fun hq=>?_) (fun hq=>?_)
 ·have h':k<l.marks.length:=of_decide_eq_true hq;have hW:=aNj p l.marks[k] hpf (hlf.2.2 _ (bOg h'));have hst:=fJ h' (dO p);rw[<-hI,hst];simp only[go_sem,kK,f2,f3,f5,e2,e3,qL h',hW.ret,kF];cases hb:dO p l.marks[k]with
  |false=>simp only[go_sem,kK,bOs,bOx]
  |true=>
   simp only[go_sem,bOn,bO3,f5,h',aQ h' hlf.2.1];exact⟨_,_,_,rfl,by simp only[go_sem,f2],by simp only[go_sem,f3],by simp only[go_sem],e2,e3⟩
 ·have:k=l.marks.length:=by simp at hq;omega
  subst this;rw[<-hI,bP1];simp only[go_sem]
def nZ (l:dB):Bool:=!(decide (25<l.picks.length)&&decide (l.picks.length<=200))&&decide (l.picks.length<=205)&&decide (l.marks.length<=30)&&l.marks.all cR
theorem aOk (hlf:l.few):PC L 49 [.agg [.i l.every,.is l.picks,.fz (l.marks.map aB.enc)]] (.bool (nZ l)):=by
 have hS:nZ l=(!(decide (25<l.picks.length)&&decide (l.picks.length<=200))&&decide (l.picks.length<=205)&&decide (l.marks.length<=30)&&l.marks.all cR):=rfl;have c1:decide ((25:Int)<(l.picks.length:Int))=decide (25<l.picks.length):=by rw[bQh,bRt,bRt];omega
 have c2:decide ((l.picks.length:Int)<=200)=decide (l.picks.length<=200):=by rw[bQh,bRt,bRt];omega
 have c3:decide ((205:Int)<(l.picks.length:Int))=!decide (l.picks.length<=205):=by rw[bQh,bPg,bRt,bRu];omega
 have c4:decide ((30:Int)<(l.marks.length:Int))=!decide (l.marks.length<=30):=by rw[bQh,bPg,bRt,bRu];omega
 rw[hS];have hL:=at_ Tryz.func49
 conv at hL=>rhs;reduce
 refine aH hL rfl rfl ?_
 generalize decide (25<l.picks.length)=b1 at c1⊢;generalize decide (l.picks.length<=200)=b2 at c2⊢;generalize decide (l.picks.length<=205)=b3 at c3⊢;generalize decide (l.marks.length<=30)=b4 at c4⊢;cases b1<;>cases b2<;>cases b3<;>cases b4
 all_goals simp only[go_sem,kK,bOc,c1,c2,c3,c4,bOs,bOn,bO3,bOx,bPp,bQa,kF]
 all_goals
  refine bH l.marks.length (fun k st=> ∃fr en cnt,st=⟨fr,en,cnt⟩/\ fr 1= .ptr ⟨0,1,0⟩ 0/\ fr 3= .i (k:Int)/\ en ⟨0,1,0⟩=some (.box [.i l.every,.is l.picks,.fz (l.marks.map aB.enc)] false)/\ (l.marks.drop k).all cR=l.marks.all cR) 0 (bOf _) ⟨_,_,_,rfl,by simp only[go_sem],by simp only[go_sem],by simp only[go_sem],rfl⟩ ?_
  rintro k st hk ⟨fr,en,cnt,rfl,f1,f3,e1,hI⟩
  simp only[go_sem,kK,f1,f3,e1,bOc]
  refine aD (fun hq=>?_) (fun hq=>?_)
  ·have h':k<l.marks.length:=of_decide_eq_true hq;have hW:=aDr l.marks[k] (hlf.2.2 _ (bOg h'));have hst:=fJ h' cR;rw[<-hI,hst];simp only[go_sem,kK,f1,f3,e1,qL h',hW.ret,kF];cases hb:cR l.marks[k]with
   |false=>simp only[go_sem,kK,bOs,bOx]
   |true=>
    simp only[go_sem,bOn,bO3,f3,h',aQ h' hlf.2.1];exact⟨_,_,_,rfl,by simp only[go_sem,f1],by simp only[go_sem],e1⟩
  ·have:k=l.marks.length:=by simp at hq;omega
   subst this;rw[<-hI,bP1];simp only[go_sem]
theorem dB.eq_iff {a b:dB}:a=b↔a.every=b.every/\ a.picks=b.picks/\ a.marks=b.marks:=by
 cases a;cases b;simp
instance : DecidableEq dB:=fun _ _=>decidable_of_iff _ dB.eq_iff.symm
theorem aOl (hpf:p.few)(hlf:l.few):PC L 9 [.agg p.cs,.agg [.i l.every,.is l.picks,.fz (l.marks.map aB.enc)]] (.bool (aV p&&nZ l)):=by
 have h1:=aFb p hpf;have h2:=aOk hlf;have hL:=at_ Tryz.func9
 conv at hL=>rhs;reduce
 refine aH hL rfl rfl ?_
 cases hb:aV p with
 |false=>rw[hb]at h1;simp only[go_sem,kK,h1.ret,bOx,kF]
 |true=>rw[hb]at h1;simp only[go_sem,kK,h1.ret,h2.ret,bO3,kF]
theorem aMi {p:aI}{l:dB}: ∀(k i:Nat) (w:aB),¬(aAo p l i k w).2=0->(aAo p l i k w).1=aB3
 |0,_,_,h=>absurd rfl h
 |k+1,i,w,h=>by
  rw[aAo]at h⊢
  split at h<;>rename_i h1
  ·rw[if_pos h1];exact aMi k (i+1) _ h
  ·rw[if_neg h1]
theorem bCh (h: ¬(atX p l n).2=0):(atX p l n).1=aB3:=aMi _ _ _ h
theorem aW3 (h:(atX p l t).2=0):(bP p l t).2.2=(eS p (atX p l t).1 (kS l t)).2.2:=by
 unfold bP;rw[if_pos h];split<;>rfl
theorem aW4 (hpf:p.few)(hsp:aV p=true)(hok:mN p l=true)(hn:n<=l.picks.length):PC L 19 [.agg p.cs,.agg [.i l.every,.is l.picks,.fz (l.marks.map aB.enc)],.i (n:Int)] (.tup [.agg (atX p l n).1.cs,.i (atX p l n).2]):=by
 have hl:=rG.of hok;have hfm:=oL (qH hok).1;obtain⟨a,ha⟩: ∃a,a=n/aP l*aP l:=⟨_,rfl⟩
 have han:a<=n:=by rw[ha];exact bRo ..
 have hma:a%aP l=0:=by rw[ha];exact Nat.mul_mod_left ..
 have hlt:=hl.lt hn;have hia:=fun en=>qL (l:=l) (en:=en) hlt
 have hmul:=hl.mul hn;rw[<-ha]at hmul;have hda:a/aP l=n/aP l:=by rw[ha];exact Nat.mul_div_cancel _ (by have:=hl.e1;omega)
 have hma0:=rF (p:=p) hl.e1 hma;rw[hda,gQ hlt]at hma0;have hmw:l.marks[n/aP l]=(atX p l a).1:=by rw[hma0]
 have hnx: ∀t,a<=t->t<n->(bP p l t).2.2=0->(atX p l (t+1)).1=(bP p l t).1:=fun t h1 h2 h0=>by
  rcases(aHn hl h0).2 with h|h
  ·exfalso
   have h3:(t+1)/aP l*aP l=t+1:=aFp h;have h4:(t+1)/aP l<=n/aP l:=Nat.div_le_div_right h2;have h5:=bPd (aP l) h4;rw[h3,<-ha]at h5;omega
  ·exact h
 obtain⟨s,hs1,hs2,hs3,hs4⟩: ∃s,a<=s/\ s<=n/\ (∀t,a<=t->t<s->(bP p l t).2.2=0)/\ ((s=n/\ (atX p l n).2=0) \/(s<n/\ ¬(bP p l s).2.2=0/\ (bP p l s).2.2=(atX p l n).2)):=by
  by_cases h0:(atX p l n).2=0
  ·exact⟨n,han,bN9 _,fun t h1 h2=>aOi hl n h0 t (by rw[<-ha];exact h1) h2,.inl ⟨rfl,h0⟩⟩
  ·obtain⟨s,h1,h2,h3,h4,h5⟩:=aOj hl n h0;rw[<-ha]at h1 h3;exact⟨s,h1,by omega,h3,.inr ⟨h2,h4,h5⟩⟩
 have hpk:=hl.pk;simp only[hl.ev];have hL:=at_ Tryz.func19
 conv at hL=>rhs;reduce
 refine aH hL rfl rfl ?_
 simp only[go_sem,kK,hl.ne,hl.div,hl.wdiv hn,hmul,hia,kF]
 refine bH s (fun i st=> ∃fr en cnt w,st=⟨fr,en,cnt⟩/\ fr 2= .i (n:Int)/\ fr 3= .ptr ⟨0,3,0⟩ 0/\ fr 4= .ptr ⟨0,4,0⟩ 0/\ fr 6= .ptr ⟨0,6,0⟩ 0/\ fr 9= .ptr ⟨0,9,0⟩ 0/\ fr 10= .i (i:Int)/\ en ⟨0,3,0⟩=some (.box [.fz (p.nodes.map aL.enc),.fz (p.funs.map (.int .i64)),.i p.main,.fz (p.cons.map cD.enc)] false)/\ en ⟨0,4,0⟩=some (.box [.i (aP l:Int),.is l.picks,.fz (l.marks.map aB.enc)] false)/\ en ⟨0,6,0⟩=some (.box [.cl [],.cl [],.cl [],.cl [],.i 0] false)/\
  en ⟨0,9,0⟩=some (.box [.fz (w.objs.map aR.enc),.is w.tasks,.fz (w.outs.map bJ.enc),.is w.ins,.i w.used] false)/\ w=(atX p l i).1/\ (atX p l i).2=0/\ a<=i) a hs1 ⟨_,_,_,l.marks[n/aP l],rfl,by simp only[go_sem],by simp only[go_sem],by simp only[go_sem],by simp only[go_sem],by simp only[go_sem],by simp only[go_sem],by simp only[go_sem],by simp only[go_sem],by simp only[go_sem],by simp only[go_sem],hmw,by rw[hma0],bN9 _⟩ ?_
 rintro i st hi ⟨fr,en,cnt,w,rfl,f2,f3,f4,f6,f9,f10,e3,e4,e6,e9,hw,hw0,hai⟩
 simp only[go_sem,kK,f2,f10]
 by_cases hin:i<n
 case neg=>
  have:i=n:=by omega
  subst this;have:s=i:=by omega
  subst this;rw[<-hw,hw0];simp only[go_sem,decide_eq_false hin,f6,f9,e6,e9]
 have hT:=aGw hfm hsp (aOf hfm hok (bQ2 (bOy hin hn)) hw0) (kS l i);have hil:i<l.picks.length:=by omega
 rw[<-hw,wW hil]at hT;simp only[go_sem,decide_eq_true hin]
 refine aJ ?_
 simp only[go_sem,kK,f3,f4,f9,f10,e3,e4,e9,hil,hT.ret,evV,kA,kF];have hae:=aW3 hw0;rw[<-hw,wW hil]at hae
 by_cases hr:(eS p w l.picks[i]).2.2=0
 ·have his:i<s:=by
   rcases hs4 with⟨h,_⟩|⟨_,h,_⟩
   ·omega
   ·rcases bP6 i s with h'|h'
    ·exact h'
    ·obtain rfl:s=i:=by omega
     exact absurd (hae.trans hr) h
  have hax:bP p l i=eS p w l.picks[i]:=by rw[(wV (hae.trans hr)).2.2,<-hw,wW hil]
  have hn1:=hnx i hai hin (hae.trans hr);rw[hax]at hn1;simp only[go_sem,decide_eq_true hr,f9,f10,e9,bOn,aQ hil hl.few];exact⟨his,_,_,_,(eS p w l.picks[i]).1,rfl,by simp only[go_sem,f2],by simp only[go_sem,f3],by simp only[go_sem,f4],by simp only[go_sem,f6],by simp only[go_sem,f9],by simp only[go_sem],by simp only[go_sem,e3],by simp only[go_sem,e4],by simp only[go_sem,e6],by simp only[go_sem],hn1.symm,(aHn hl (hae.trans hr)).1,by omega⟩
 ·rcases hs4 with⟨h,_⟩|⟨h1,h2,h3⟩
  ·exact absurd (hae.symm.trans (hs3 i hai (by omega))) hr
  ·have his:i=s:=by
    rcases bP6 i s with h'|h'
    ·exact absurd (hae.symm.trans (hs3 i hai h')) hr
    ·omega
   subst his;rw[bCh (n:=n) (by rw[<-h3];exact h2),<-h3,hae]
   simp only[go_sem,kK,decide_eq_false hr,f6,e6,bOs];rfl
theorem aOm (hpf:p.few)(hsp:aV p=true)(hok:mN p l=true)(ht:t<l.picks.length):PC L 59 [.agg p.cs,.agg [.i l.every,.is l.picks,.fz (l.marks.map aB.enc)],.i (t:Int)] (.tup [.agg (bP p l t).1.cs,evV (bP p l t).2.1,.i (bP p l t).2.2]):=by
 have hA:=aW4 hpf hsp hok (bQ2 ht);have hfm:=oL (qH hok).1;have hL:=at_ Tryz.func59
 conv at hL=>rhs;reduce
 refine aH hL rfl rfl ?_
 simp only[go_sem,kK,hA.ret,kF];unfold bP
 by_cases h0:(atX p l t).2=0
 case neg=>
  rw[if_neg h0];simp only[go_sem,kK,decide_eq_false h0,bOs,evV,gR,kR]
 rw[if_pos h0];have hT:=aGw hfm hsp (aOf hfm hok (bQ2 ht) h0) (kS l t);rw[wW ht]at hT⊢;simp only[go_sem,decide_eq_true h0,bOn]
 refine aJ ?_
 simp only[go_sem,kK,ht,hT.ret,evV,kA,kF]
 by_cases hr:(eS p (atX p l t).1 l.picks[t]).2.2=0
 ·rw[if_pos hr];simp only[go_sem,hr]
  refine aJ ?_
  simp only[go_sem,kA,kF]
 ·rw[if_neg hr];simp only[go_sem,kK,decide_eq_false hr,bOs]
  refine aJ ?_
  simp only[go_sem,kA,kF];rfl
theorem aOn (hpf:p.few)(hsp:aV p=true)(hok:mN p l=true):PC L 13 [.agg p.cs,.agg [.i l.every,.is l.picks,.fz (l.marks.map aB.enc)]] (.i (vN p l)):=by
 have hl:=rG.of hok;have hfm:=oL (qH hok).1;have h0m:=hl.lt (bOf l.picks.length);rw[Nat.zero_div]at h0m;have hia:=fun en=>aRp (l:=l) (en:=en) h0m
 have hg0:=aGv hok;rw[gQ h0m]at hg0;simp only[iJ,bN8]at hg0;have hS:=aFj hfm hsp (aHm hg0.2) 0 (by omega)
 rw[show((0:Nat):Int)=0 from rfl]at hS
 unfold vN;rw[gQ h0m];have hL:=at_ Tryz.func13
 conv at hL=>rhs;reduce
 refine aH hL rfl rfl ?_
 simp only[hl.ev];simp only[go_sem,kK,kF]
 refine aJ ?_
 simp only[go_sem,kK,hia,hS.ret,kA,kF]
 by_cases hs:(cJ p l.marks[0] 0).2.2=true
 case neg=>
  rw[if_neg (fun h=>hs h.1)]
  have hs':(cJ p l.marks[0] 0).2.2=false:=by simpa using hs
  simp only[go_sem,kK,hs',bOs]
 by_cases hz:(cJ p l.marks[0] 0).2.1=0
 case neg=>
  rw[if_neg (fun h=>hz h.2)]
  simp only[go_sem,kK,hs,show decide ((0:Int)<((cJ p l.marks[0] 0).2.1:Int))=true from decide_eq_true (by omega),bOn,kF]
 rw[if_pos ⟨hs,hz⟩];simp only[go_sem,kK,hs,show decide ((0:Int)<((cJ p l.marks[0] 0).2.1:Int))=false from decide_eq_false (by omega),bOn,kF]
 obtain⟨s,hs1,hs2,hs3⟩: ∃s,s<=l.picks.length/\ (∀u,u<s->(bP p l u).2.2=0/\ ¬pY p l u)/\ ((s=l.picks.length/\ aAq p l 0 l.picks.length= -1) \/(s<l.picks.length/\ aAq p l 0 l.picks.length=(s:Int)+1/\ (¬(bP p l s).2.2=0 \/(bP p l s).2.2=0/\ pY p l s))):=by
  rcases aCs (p:=p) (l:=l) l.picks.length 0 with⟨s,q1,q2,q3,q4,q5⟩|⟨q3,q4⟩
  ·exact⟨s,by omega,fun u hu=>q3 u (bOf _) hu,.inr ⟨by omega,q4,q5⟩⟩
  ·exact⟨_,bN9 _,fun u hu=>q3 u (bOf _) (by omega),.inl ⟨rfl,q4⟩⟩
 have hpk:=hl.pk
 refine bH s (fun t st=> ∃fr en cnt,st=⟨fr,en,cnt⟩/\ fr 2= .ptr ⟨0,2,0⟩ 0/\ fr 3= .ptr ⟨0,3,0⟩ 0/\ fr 8= .i (t:Int)/\ en ⟨0,2,0⟩=some (.box [.fz (p.nodes.map aL.enc),.fz (p.funs.map (.int .i64)),.i p.main,.fz (p.cons.map cD.enc)] false)/\ en ⟨0,3,0⟩=some (.box [.i (aP l:Int),.is l.picks,.fz (l.marks.map aB.enc)] false)) 0 (bOf _) ⟨_,_,_,rfl,by simp only[go_sem],by simp only[go_sem],by simp only[go_sem],by simp only[go_sem],by simp only[go_sem]⟩ ?_
 rintro t st ht ⟨fr,en,cnt,rfl,f2,f3,f8,e2,e3⟩
 simp only[go_sem,kK,f3,f8,e3,bOc]
 by_cases htl:t<l.picks.length
 case neg=>
  rcases hs3 with⟨_,h⟩|⟨h,_⟩
  ·rw[h];simp only[go_sem,decide_eq_false htl]
  ·omega
 have hA:=aOm hpf hsp hok htl;simp only[hl.ev]at hA;simp only[go_sem,kK,decide_eq_true htl,f2,f3,f8,e2,e3,hA.ret,evV,kF];have hw1:IntKind.i64.wrap ((t:Int)+1)=((t+1:Nat):Int):=aQ htl hl.few;have hst: ¬((bP p l t).2.2=0/\ ¬pY p l t)->s=t/\ aAq p l 0 l.picks.length=((t+1:Nat):Int):=fun h=>by
  have:s=t:=by
   rcases bP6 t s with h'|h'
   ·exact absurd (hs2 t h') h
   ·omega
  subst this;rcases hs3 with⟨h',_⟩|⟨_,h',_⟩
  ·omega
  ·exact⟨rfl,h'⟩
 by_cases h0:(bP p l t).2.2=0
 case neg=>
  rw[(hst (fun h=>h0 h.1)).2]
  simp only[go_sem,kK,decide_eq_false h0,f8,hw1,bOs]
 have hrem:((t+1:Nat):Int).tmod (aP l:Int)=(((t+1)%aP l:Nat):Int):=(Int.ofNat_tmod _ _).symm;have hlt:=hl.lt (n:=t+1) htl;have hiaT:=fun en=>qL (l:=l) (en:=en) hlt
 have hsame:=aQb (bP p l t).1 l.marks[(t+1)/aP l] (aFq hsp hok htl h0)
 by_cases hm:(t+1)%aP l=0
 case neg=>
  have hnb:t<s:=by
   rcases bP6 t s with h'|h'
   ·exact h'
   ·have:s=t:=by omega
    subst this;rcases hs3 with⟨h',_⟩|⟨_,_,h'|h'⟩
    ·omega
    ·exact absurd h0 h'
    ·exact absurd h'.2.1 hm
  simp only[go_sem,kK,decide_eq_true h0,f3,f8,e3,hw1,hl.ne,hrem,show decide ((((t+1)%aP l:Nat):Int)=0)=false from decide_eq_false (by omega),bOn,kF]
  exact⟨hnb,_,_,_,rfl,by simp only[go_sem,f2],by simp only[go_sem,f3],by simp only[go_sem],by simp only[go_sem,e2],by simp only[go_sem,e3]⟩
 by_cases he:(bP p l t).1=l.marks[(t+1)/aP l]
 ·have hnb:t<s:=by
   rcases bP6 t s with h'|h'
   ·exact h'
   ·have:s=t:=by omega
    subst this;rcases hs3 with⟨h',_⟩|⟨_,_,h'|h'⟩
    ·omega
    ·exact absurd h0 h'
    ·exact absurd (by rw[gQ hlt];exact he) h'.2.2
  simp only[go_sem,kK,decide_eq_true h0,f3,f8,e3,hw1,hl.ne,hrem,hm,hl.div,hl.wdiv htl,hiaT,hsame.ret,decide_eq_true he,bOn,kF];exact⟨hnb,_,_,_,rfl,by simp only[go_sem,f2],by simp only[go_sem,f3],by simp only[go_sem],by simp only[go_sem,e2],by simp only[go_sem,e3]⟩
 ·rw[(hst (fun h=>h.2 ⟨hm,by rw[gQ hlt];exact he⟩)).2]
  simp only[go_sem,kK,decide_eq_true h0,f3,f8,e3,hw1,hl.ne,hrem,hm,hl.div,hl.wdiv htl,hiaT,hsame.ret,decide_eq_false he,bOn,bOs,kF]
theorem aTr (h:aV p=true):p.cons.length<=1000:=by
 simp only[aV,bN8,bRt]at h;omega
theorem aBj (hk:PC L 10 [] (.bool true))(hpf:p.few)(hlf:l.few):PC L 3 [.agg p.cs,.agg l.cs] (.bool true):=by
 have hS:=aOl hpf hlf;have hLz:=at_ Tryz.func3
 conv at hLz=>rhs;reduce
 refine aH hLz rfl rfl ?_
 cases hsm:(aV p&&nZ l)with
 |false=>
  rw[hsm]at hS;simp only[go_sem,kK,hS.ret,hk.ret,bOs,kF]
 |true=>
  rw[hsm]at hS;rw[bN8]at hsm;have hsp:=hsm.1;have hV:=aKm hpf hlf hsp;have hL:=aTq hpf hlf (aTr hsp);unfold aHp at hV
  by_cases hok:mN p l=true
  case neg=>
   rw[if_neg hok]at hV;rw[show mN p l=false by simpa using hok]at hL
   simp only[go_sem,kK,hS.ret,hV.ret,hL.ret,hk.ret,bOn,bOs,decide_true,kF]
  have hW:=aOn hpf hsp hok;rw[if_pos hok]at hV;rw[hok]at hL
  by_cases hw:0<=vN p l
  ·rw[if_pos hw]at hV;simp only[go_sem,kK,hS.ret,hV.ret,hL.ret,hW.ret,hk.ret,decide_eq_true hw,bOn,decide_true,kF]
  ·rw[if_neg hw]at hV;simp only[go_sem,kK,hS.ret,hV.ret,hL.ret,hW.ret,hk.ret,decide_eq_false hw,bOn,decide_true,kF]
end Go.Proofs.YtmnchlhngpdffaaGreat
