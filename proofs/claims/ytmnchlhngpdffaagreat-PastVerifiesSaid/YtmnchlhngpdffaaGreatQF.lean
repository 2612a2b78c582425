/- What the laws of chapter 23 are handed, as records; what all their rows need. -/
import Derived.Test.YtmnchlhngpdffaaGreatM1
import Derived.Test.YtmnchlhngpdffaaGreatM5
import Derived.Test.YtmnchlhngpdffaaGreatHxE
import Derived.Test.YtmnchlhngpdffaaGreatHxD
import Derived.Carry
set_option linter.all false
namespace Go.Proofs.YtmnchlhngpdffaaGreat
open Go.Abs Go.Proofs
open Go.ChangeShapes Go.WideShapes Go.ChangeAt Go.RowKit
set_option maxRecDepth 100000
theorem own :ownKnob Tryz.prog.godebug=none:=by kernel_rfl
theorem aUp :laidOutB Tryz.prog=true:=by kernel_rfl
def gY (t:TypeId):Bool:=[3,9,22,23,24,26,27,29,36,37,39,55,56,58,63,65,110,111,112,114,123,139,141,145,151,153,155].contains t
theorem aTm :aPu Tryz.prog gY=true:=by kernel_rfl
theorem bH8 :Tryz.prog.follows .mixedOrders=true:=by kernel_rfl
theorem bMk :bC5 Tryz.prog (fun g=>Nat.blt 2 g&&(Nat.blt g 371||Nat.blt 385 g)&&Nat.blt g 396)=true:=by kernel_rfl
theorem aRk {H:Type}{enc:TypeId×Value->H}{W:World}{sp:Nat->Bool}{t:TypeId}{v:Value}{d:DataW H}{ps:List MemPlace}(ht:t<Tryz.prog.types.size)(hs:gY t=true)(hv: ∃cs,v= .agg cs)(h:DataW.Trod enc Tryz.prog W 0 sp true t v d ps):
  ∃n vs,jA Tryz.prog (n+10) t vs/\ VR (aIw W) Gh.none W (.agg vs) v:=by
 obtain⟨fuel,h⟩:=h;obtain⟨x,rfl⟩:=hv;obtain⟨vs,h1,h2⟩:=aVn aUp gY aTm fuel t x.toList _ ht hs h;exact⟨fuel,vs,aVo 10 h1,aNb h2⟩
theorem aWy {n:Nat}{x:List Val}(h:jA Tryz.prog (n+10) 29 x): ∃l:dB,x=l.cs/\ l.few:=by
 have h1:=gZ Tryz.underlying29 h;simp only[mG]at h1;obtain⟨a,b,rfl,_,ha,c,d,rfl,_,hc,e,f,rfl,_,he,rfl⟩:=h1;obtain⟨i,rfl⟩:=iI Tryz.underlying3 ha;obtain⟨l2,rfl,f2⟩:=wI hc;obtain⟨l3,rfl,f3,f4⟩:=jT aB.enc aB.few Tryz.underlying27 (fun y hy=>by
  obtain⟨w,rfl,hw⟩:=aQe hy;exact⟨w,by simp[rI,cQ,Tryz.underlying39,aB.enc],hw⟩) he
 exact⟨⟨i,l2,l3⟩,rfl,f2,f3,f4⟩
end Go.Proofs.YtmnchlhngpdffaaGreat
