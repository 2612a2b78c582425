/- What the laws of chapter 23 are handed, as records; what all their rows need. -/
import Derived.Test.YtmnchlhngpdffaaGreatM1
import Derived.Test.YtmnchlhngpdffaaGreatM3
import Derived.Test.YtmnchlhngpdffaaGreatHxC
import Derived.Carry
set_option linter.all false
open Bool renaming and_eq_true -> bPp
namespace Go.Proofs.YtmnchlhngpdffaaGreat
open Go.Abs Go.Proofs
open Go.ChangeShapes Go.WideShapes Go.ChangeAt Go.RowKit
set_option maxRecDepth 100000
theorem own :ownKnob Tryz.prog.godebug=none:=by kernel_rfl
theorem aQ8 :laidOutB Tryz.prog=true:=by kernel_rfl
def iS (t:TypeId):Bool:=[3,9,22,23,24,26,27,29,36,37,39,55,56,58,63,65,110,111,112,114,123,139,141,145,151,153,155].contains t
theorem aWi :aSq Tryz.prog iS=true:=by kernel_rfl
theorem bGh :Tryz.prog.follows .mixedOrders=true:=by kernel_rfl
theorem bKn :bF3 Tryz.prog (fun g=>Nat.blt 2 g&&(Nat.blt g 371||Nat.blt 385 g)&&Nat.blt g 396)=true:=by kernel_rfl
variable {ps:List MemPlace}
theorem aCk {H:Type}{enc:TypeId×Value->H}{W:World}{sp:Nat->Bool}{t:TypeId}{v:Value}{d:DataW H}(ht:t<Tryz.prog.types.size)(hs:iS t=true)(hv: ∃cs,v= .agg cs)(h:DataW.Trod enc Tryz.prog W 0 sp true t v d ps):
  ∃n vs,jZ Tryz.prog (n+10) t vs/\ VR (aIi W) Gh.none W (.agg vs) v:=by
 obtain⟨fuel,h⟩:=h;obtain⟨x,rfl⟩:=hv;obtain⟨vs,h1,h2⟩:=aYp aQ8 iS aWi fuel t x.toList _ ht hs h;exact⟨fuel,vs,aYq 10 h1,aP5 h2⟩
theorem aO6 {n:Nat}{x:List Val}(h:jZ Tryz.prog (n+10) 29 x): ∃l:bP,x=l.cs/\ l.few:=by
 have h1:=iT Tryz.underlying29 h;simp only[nV]at h1;obtain⟨a,b,rfl,_,ha,c,d,rfl,_,hc,e,f,rfl,_,he,rfl⟩:=h1;obtain⟨i,rfl⟩:=jF Tryz.underlying3 ha;obtain⟨l2,rfl,f2⟩:=yS hc;obtain⟨l3,rfl,f3,f4⟩:=kZ aA.enc aA.few Tryz.underlying27 (fun y hy=>by
  obtain⟨w,rfl,hw⟩:=aIq hy;exact⟨w,by simp[sX,dB,Tryz.underlying39,aA.enc],hw⟩) he
 exact⟨⟨i,l2,l3⟩,rfl,f2,f3,f4⟩
theorem aQ9 {H:Type}{enc:TypeId×Value->H}{P:Program}{w:World}{base:Nat}{spare:Nat->Bool}{held:Bool}{t0 t1 t2 t3 t4:TypeId}{args:Array Value}{ds:List (DataW H)}(h:DataW.TrodAll enc P w base spare held [t0,t1,t2,t3,t4] args.toList ds ps):
  ∃v0 v1 v2 v3 v4 d0 d1 d2 d3 d4 p0 p1 p2 p3 p4,args= #[v0,v1,v2,v3,v4]/\ ds=[d0,d1,d2,d3,d4]/\ ps=p0++(p1++(p2++(p3++p4)))/\ DataW.Trod enc P w base spare held t0 v0 d0 p0/\ DataW.Trod enc P w base spare held t1 v1 d1 p1/\ DataW.Trod enc P w base spare held t2 v2 d2 p2/\ DataW.Trod enc P w base spare held t3 v3 d3 p3/\ DataW.Trod enc P w base spare held t4 v4 d4 p4:=by
 obtain⟨v0,l0,d0,e0,p0,q0,ha,rfl,rfl,h0,r0⟩:=trodAll_cons h;obtain⟨v1,l1,d1,e1,p1,q1,rfl,rfl,rfl,h1,r1⟩:=trodAll_cons r0;obtain⟨v2,l2,d2,e2,p2,q2,rfl,rfl,rfl,h2,r2⟩:=trodAll_cons r1;obtain⟨v3,l3,d3,e3,p3,q3,rfl,rfl,rfl,h3,r3⟩:=trodAll_cons r2;obtain⟨v4,l4,d4,e4,p4,q4,rfl,rfl,rfl,h4,r4⟩:=trodAll_cons r3;obtain⟨rfl,rfl,rfl⟩:=trodAll_nil r4;exact⟨v0,v1,v2,v3,v4,d0,d1,d2,d3,d4,p0,p1,p2,p3,p4,by cases args;simp_all,rfl,by simp,h0,h1,h2,h3,h4⟩
theorem bIc {c:Int}(h:(Lit.int .i64 c).wf=true):c<=9223372036854775807:=by
 simp only[Lit.wf,bPp,bTe]at h;have e:IntKind.i64.max=9223372036854775807:=rfl;rw[e]at h;exact h.2
end Go.Proofs.YtmnchlhngpdffaaGreat
