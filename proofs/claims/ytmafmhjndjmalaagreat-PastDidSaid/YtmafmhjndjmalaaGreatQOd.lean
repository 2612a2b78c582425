import Derived.Test.YtmafmhjndjmalaaGreatM1d
import Derived.Test.YtmafmhjndjmalaaGreatM3d
import Derived.Test.YtmafmhjndjmalaaGreatHxCd
import Derived.Carry
set_option linter.all false
namespace Go.Proofs.YtmafmhjndjmalaaGreat
open Go.Abs Go.Proofs
open Go.ChangeShapes Go.WideShapes Go.ChangeAt Go.RowKit
set_option maxRecDepth 100000
theorem own :ownKnob Tryz.prog.godebug=none:=by kernel_rfl
theorem aP6 :laidOutB Tryz.prog=true:=by kernel_rfl
def gC (t:TypeId):Bool:=[3,9,22,23,24,26,27,28,30,59,60,62,54,55,56,58,119,73,149,138,140,151,153,71,69].contains t
theorem aLq :aRm Tryz.prog gC=true:=by kernel_rfl
theorem bK4 :Tryz.prog.follows .mixedOrders=true:=by kernel_rfl
theorem bO6 :bF7 Tryz.prog (fun g=>(Nat.blt 2 g&&Nat.blt g 352)||(Nat.blt 366 g&&Nat.blt g 377))=true:=by kernel_rfl
variable {ps:List MemPlace}{sp:Nat->Bool}{v:Value}
theorem aLr {H:Type}{enc:TypeId×Value->H}{W:World}{t:TypeId}{d:DataW H}(ht:t<Tryz.prog.types.size)(hs:gC t=true)(hv: ∃cs,v= .agg cs)(h:DataW.Trod enc Tryz.prog W 0 sp true t v d ps):
  ∃n vs,jO Tryz.prog (n+10) t vs/\ VR (aHd W) Gh.none W (.agg vs) v:=by
 obtain⟨fuel,h⟩:=h;obtain⟨x,rfl⟩:=hv;obtain⟨vs,h1,h2⟩:=aM8 aP6 gC aLq fuel t x.toList _ ht hs h;exact⟨fuel,vs,aM9 10 h1,aO3 h2⟩
variable {base:Nat}
theorem bCp {W:World}(h:Value.okWide Tryz.prog W .any base 23 v): ∃a n c,v= .slice a n c:=by
 unfold Value.okWide at h;rw[Tryz.underlying23]at h;cases v with
 |slice a n c=>exact⟨a,n,c,rfl⟩
 |_=>exact h.elim
theorem aY8 {H:Type}{enc:TypeId×Value->H}{W:World}{d:DataW H}(hv: ∃a n c,v= .slice a n c)(h:DataW.Trod enc Tryz.prog W 0 sp true 23 v d ps):
  ∃l:List Int,Few l.length/\ VR (aHd W) Gh.none W (.fz (l.map (.int .i64))) v:=by
 obtain⟨fuel,h⟩:=h;obtain⟨a,n,c,rfl⟩:=hv;obtain⟨vs,h1,h2⟩:=aM8 aP6 gC aLq fuel 23 [.slice a n c] _ (D_o (by kernel_rfl)) (by decide) h
 obtain⟨l,rfl,hl⟩:=xH (aM9 2 h1);exact⟨l,hl,by simpa using(h2.2 0 (by simp)).2⟩
theorem aVe {n:Nat}{x:List Val}(h:jO Tryz.prog (n+3) 71 x): ∃c:fG,x=[.i c.kind,.i c.n,.i c.v.kind,.i c.v.n]:=by
 have h1:=gQ Tryz.underlying71 h;simp only[mR]at h1;obtain⟨a,b,rfl,_,ha,c,d,rfl,_,hc,e,f,rfl,_,he,rfl⟩:=h1;obtain⟨i,rfl⟩:=gH (k:= .i64) (by first|exact Tryz.underlying63|kernel_rfl) ha
 obtain⟨j,rfl⟩:=gH Tryz.underlying3 hc;have h2:=gQ Tryz.underlying62 he;simp only[mR]at h2;obtain⟨a,b,rfl,_,ha,c,d,rfl,_,hc,rfl⟩:=h2;obtain⟨k,rfl⟩:=gH (k:= .i64) (by first|exact Tryz.underlying60|kernel_rfl) ha
 obtain⟨m,rfl⟩:=gH Tryz.underlying3 hc;exact⟨⟨i,j,⟨k,m⟩⟩,rfl⟩
theorem aS9 {H:Type}{enc:TypeId×Value->H}{P:Program}{w:World}{spare:Nat->Bool}{held:Bool}{t0 t1 t2 t3 t4 t5:TypeId}{args:Array Value}{ds:List (DataW H)}(h:DataW.TrodAll enc P w base spare held [t0,t1,t2,t3,t4,t5] args.toList ds ps):
  ∃v0 v1 v2 v3 v4 v5 d0 d1 d2 d3 d4 d5 p0 p1 p2 p3 p4 p5,args= #[v0,v1,v2,v3,v4,v5]/\ ds=[d0,d1,d2,d3,d4,d5]/\ ps=p0++(p1++(p2++(p3++(p4++p5))))/\ DataW.Trod enc P w base spare held t0 v0 d0 p0/\ DataW.Trod enc P w base spare held t1 v1 d1 p1/\ DataW.Trod enc P w base spare held t2 v2 d2 p2/\ DataW.Trod enc P w base spare held t3 v3 d3 p3/\ DataW.Trod enc P w base spare held t4 v4 d4 p4/\ DataW.Trod enc P w base spare held t5 v5 d5 p5:=by
 obtain⟨v0,l0,d0,e0,p0,q0,ha,rfl,rfl,h0,r0⟩:=trodAll_cons h;obtain⟨v1,l1,d1,e1,p1,q1,rfl,rfl,rfl,h1,r1⟩:=trodAll_cons r0;obtain⟨v2,l2,d2,e2,p2,q2,rfl,rfl,rfl,h2,r2⟩:=trodAll_cons r1;obtain⟨v3,l3,d3,e3,p3,q3,rfl,rfl,rfl,h3,r3⟩:=trodAll_cons r2;obtain⟨v4,l4,d4,e4,p4,q4,rfl,rfl,rfl,h4,r4⟩:=trodAll_cons r3;obtain⟨v5,l5,d5,e5,p5,q5,rfl,rfl,rfl,h5,r5⟩:=trodAll_cons r4;obtain⟨rfl,rfl,rfl⟩:=trodAll_nil r5;exact⟨v0,v1,v2,v3,v4,v5,d0,d1,d2,d3,d4,d5,p0,p1,p2,p3,p4,p5,by cases args;simp_all,rfl,by simp,h0,h1,h2,h3,h4,h5⟩
end Go.Proofs.YtmafmhjndjmalaaGreat
