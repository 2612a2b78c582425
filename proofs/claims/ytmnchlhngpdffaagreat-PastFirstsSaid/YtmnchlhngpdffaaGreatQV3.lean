/- Turns of outputs, inputs, objects and conditions are as stated: for all programs, logs, numbers and conditions. -/
import Derived.Test.YtmnchlhngpdffaaGreatQF
import Derived.Test.YtmnchlhngpdffaaGreatM14
set_option linter.all false
open List renaming mem_cons -> bP0
open Nat renaming le_refl -> bOy
namespace Go.Proofs.YtmnchlhngpdffaaGreat
open Go.Abs Go.Proofs Tryz
open Go.ChangeShapes Go.WideShapes Go.ChangeAt Go.RowKit
set_option maxRecDepth 100000
theorem aMm (hk:PC L 10 [] (.bool true))(os:Os)(started:os.Started)(H:Type)(enc:TypeId×Value->H):
  ReturnsInHanded {} Tryz.checked os 6 .any (Rows.pastFirstsSpec.pre6 enc Tryz.prog Tryz.f6 Rows.pastFirstsRow.domain false) (Rows.pastFirstsSpec.post enc Tryz.prog Tryz.f6 false true false false):=by
 refine returnsInHanded_of_change (C:=Tryz.checked) own started (by kernel_rfl) func6
  (ChangeSpec.witness6 (enc:=enc) (C:=Tryz.checked) false ⟨#[],#[.agg #[.slice none 0 0,.slice none 0 0,.int (.i64) 0,.slice none 0 0],.agg #[.int (.i64) 0,.slice none 0 0,.slice none 0 0],.int (.i64) 0,.agg #[.int (.i64) 0,.int (.i64) 0,.int (.i64) 0,.int (.i64) 0]],[]⟩ 8 (by kernel_rfl) (by kernel_rfl) (by kernel_rfl) (by kernel_rfl)) ?_
 intro W base args ds gs before hval0 hW hcnd _;have hval: ∀(j:Nat) t v,Tryz.f6.params[j]?=some t->args[j]?=some v->Value.okWide Tryz.prog W .any base t v:=hval0
 have hW':=hW;obtain⟨p,q,hA0,hV,rfl,hfz,hnd⟩:=hW;have hA:DataW.TrodAll enc Tryz.prog W 0 (fun _=>true) true Tryz.f6.params.toList args.toList ds p:=hA0
 rw[Tryz.params6]at hA hval;obtain⟨v0,v1,v2,v3,d0,d1,d2,d3,p0,p1,p2,p3,rfl,rfl,rfl,h0,h1,h2,h3⟩:=trodAll_four hA;obtain⟨rfl,rfl⟩:=trodVars_none hV;have a0:=hval 0 26 v0 rfl rfl;have a1:=hval 1 29 v1 rfl rfl;have a3:=hval 3 65 v3 rfl rfl;simp only[Value.okWide,Tryz.underlying26,Tryz.underlying29,Tryz.underlying65]at a0 a1 a3;obtain⟨n0,x0,f0,r0⟩:=aBi (of_decide_eq_true (by kernel_rfl)) (by decide) (a0.imp fun _ h=>h.1) h0
 obtain⟨n1,x1,f1,r1⟩:=aBi (of_decide_eq_true (by kernel_rfl)) (by decide) (a1.imp fun _ h=>h.1) h1
 obtain⟨n3,x3,f3,r3⟩:=aBi (of_decide_eq_true (by kernel_rfl)) (by decide) (a3.imp fun _ h=>h.1) h3
 obtain⟨pr,rfl,fpr⟩:=aKi (n:=n0+4) f0;obtain⟨l,rfl,fl⟩:=aNz (n:=n1) f1;obtain⟨c2,rfl,rfl,rfl,w2⟩:=open_int Tryz.underlying3 (hval 2 3 v2 rfl rfl) h2;obtain⟨c,rfl⟩:=aVm (n:=n3+7) f3;clear hA0 hval0;obtain⟨n,hn⟩:=aFx hk fpr fl c2 c
 refine(aJt bFq bJl (hn n (bOy _)) (S:=aHe W) (w:=W) (vals:= #[v0,v1,.int (.i64) c2,v3]) (fun _ _ h=>h) (fun v x ⟨g,cs,h,_⟩=>by cases h) rfl (fun i hi=>?_)).mono fun e W' ⟨he,hb⟩=>?_
 ·match i,hi with
  |0,_=>exact r0
  |1,_=>exact r1
  |2,_=>exact .int _ _
  |3,_=>exact r3
 ·subst he;exact⟨_,rfl,aRd (bt:=4) hW' rfl (by kernel_rfl) Tryz.underlying4 rfl aP3 (fun t ht=>by
   rw[Tryz.params6]at ht;simp only[bP0,List.not_mem_nil,or_false]at ht;rcases ht with rfl|rfl|rfl|rfl<;>exact⟨by kernel_rfl,of_decide_eq_true (by kernel_rfl)⟩) hb⟩
theorem aMn :joinedFacts Tryz.prog 6 Tryz.f6 Rows.pastFirstsSpec Rows.pastFirstsRow=true:=by
 obtain⟨i1,i2⟩:=aEo bJo (f:=6) rfl;obtain⟨u1,u2⟩:=bAt (yI (aAq _ 6).1 func6 (by kernel_rfl)) func33 (by kernel_rfl)
 unfold joinedFacts OpenClaim.veiledFits Program.veiledOwn Program.readableRec Program.loopsFrom Program.mapsRec Program.ifacesRec Program.veiledRec Program.wideKeysFrom;simp only[aZ5,i1,i2,u1,u2]
 kernel_rfl
theorem aY7 (hk:PC L 10 [] (.bool true)):Rows.PastFirstsSaid:=
 OpenClaim.holds_of_wide 6 Tryz.f6 rfl rfl rfl rfl rfl rfl rfl ⟨rfl,rfl,rfl,rfl,rfl⟩ rfl rfl rfl rfl rfl (by kernel_rfl) func6 aMn
  (of_decide_eq_true (by kernel_rfl)) (by unfold Func.isWrapper;first|(rw[if_pos (by decide+kernel)];kernel_rfl)|(rw[if_neg (by decide+kernel)];exact⟨rfl,rfl⟩))
  (fun os started H enc _=>aMm hk os started H enc)
end Go.Proofs.YtmnchlhngpdffaaGreat

