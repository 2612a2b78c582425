/- What the laws of chapter 23 are handed, as records; what all their rows need. -/
import Derived.Test.YtmnchlhngpdffaaGreatM1
import Derived.Test.YtmnchlhngpdffaaGreatM5
import Derived.Test.YtmnchlhngpdffaaGreatHxE
import Derived.Test.YtmnchlhngpdffaaGreatHxD
import Derived.Carry
set_option linter.all false
namespace Go.Proofs.YtmnchlhngpdffaaGreat
open Go.Abs Go.Proofs
open Go.ChangeShapes Go.WideShapes Go.ChangeAt Go.RowKit
set_option maxRecDepth 100000
theorem own :ownKnob Tryz.prog.godebug=none:=by kernel_rfl
theorem aP3 :laidOutB Tryz.prog=true:=by kernel_rfl
def iJ (t:TypeId):Bool:=[3,9,22,23,24,26,27,29,36,37,39,55,56,58,63,65,110,111,112,114,123,139,141,145,151,153,155].contains t
theorem aVl :aRo Tryz.prog iJ=true:=by kernel_rfl
theorem bFq :Tryz.prog.follows .mixedOrders=true:=by kernel_rfl
theorem bJo :bFg Tryz.prog (fun g=>Nat.blt 2 g&&(Nat.blt g 371||Nat.blt 385 g)&&Nat.blt g 396)=true:=by kernel_rfl
theorem aBi {H:Type}{enc:TypeId×Value->H}{W:World}{sp:Nat->Bool}{t:TypeId}{v:Value}{d:DataW H}{ps:List MemPlace}(ht:t<Tryz.prog.types.size)(hs:iJ t=true)(hv: ∃cs,v= .agg cs)(h:DataW.Trod enc Tryz.prog W 0 sp true t v d ps):
  ∃n vs,jD Tryz.prog (n+10) t vs/\ VR (aHe W) Gh.none W (.agg vs) v:=by
 obtain⟨fuel,h⟩:=h;obtain⟨x,rfl⟩:=hv;obtain⟨vs,h1,h2⟩:=aXp aP3 iJ aVl fuel t x.toList _ ht hs h;exact⟨fuel,vs,aXq 10 h1,aO1 h2⟩
variable {n:Nat}{x:List Val}
theorem aNz (h:jD Tryz.prog (n+10) 29 x): ∃l:cC,x=l.cs/\ l.few:=by
 have h1:=fS Tryz.underlying29 h;simp only[lP]at h1;obtain⟨a,b,rfl,_,ha,c,d,rfl,_,hc,e,f,rfl,_,he,rfl⟩:=h1;obtain⟨i,rfl⟩:=fR Tryz.underlying3 ha;obtain⟨l2,rfl,f2⟩:=xF hc;obtain⟨l3,rfl,f3,f4⟩:=kJ aA.enc aA.few Tryz.underlying27 (fun y hy=>by
  obtain⟨w,rfl,hw⟩:=aR9 hy;exact⟨w,by simp[sD,cZ,Tryz.underlying39,aA.enc],hw⟩) he
 exact⟨⟨i,l2,l3⟩,rfl,f2,f3,f4⟩
theorem aVm (h:jD Tryz.prog (n+3) 65 x): ∃c:fO,x=[.i c.kind,.i c.n,.i c.v.kind,.i c.v.n]:=by
 have h1:=fS Tryz.underlying65 h;simp only[lP]at h1;obtain⟨a,b,rfl,_,ha,c,d,rfl,_,hc,e,f,rfl,_,he,rfl⟩:=h1;obtain⟨i,rfl⟩:=fR (k:= .i64) (by first|exact Tryz.underlying63|kernel_rfl) ha
 obtain⟨j,rfl⟩:=fR Tryz.underlying3 hc;have h2:=fS Tryz.underlying58 he;simp only[lP]at h2;obtain⟨a,b,rfl,_,ha,c,d,rfl,_,hc,rfl⟩:=h2;obtain⟨k,rfl⟩:=fR (k:= .i64) (by first|exact Tryz.underlying56|kernel_rfl) ha
 obtain⟨m,rfl⟩:=fR Tryz.underlying3 hc;exact⟨⟨i,j,⟨k,m⟩⟩,rfl⟩
end Go.Proofs.YtmnchlhngpdffaaGreat
