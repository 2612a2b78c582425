/- Which logs are right is as stated: for all programs and logs. -/
import Derived.Test.YtmnchlhngpdffaaGreatQF
import Derived.Test.YtmnchlhngpdffaaGreatM7
set_option linter.all false
open List renaming mem_cons → bO8
open Nat renaming le_refl → bN9
namespace Go.Proofs.YtmnchlhngpdffaaGreat
open Go.Abs Go.Proofs
open Go.ChangeShapes Go.WideShapes Go.ChangeAt Go.RowKit
set_option maxRecDepth 100000
theorem aHa (hk:PC L 10 [] (.bool true))(os:Os)(started:os.Started)(H:Type)(enc:TypeId×Value->H):
  ReturnsInHanded {} Tryz.checked os 3 .any (Rows.pastVerifiesSpec.pre6 enc Tryz.prog Tryz.f3 Rows.pastVerifiesRow.domain false) (Rows.pastVerifiesSpec.post enc Tryz.prog Tryz.f3 false true false false):=by
 refine returnsInHanded_of_change (C:=Tryz.checked) own started (by kernel_rfl) Tryz.func3
  (ChangeSpec.witness6 (enc:=enc) (C:=Tryz.checked) false ⟨#[],#[.agg #[.slice none 0 0,.slice none 0 0,.int (.i64) 0,.slice none 0 0],.agg #[.int (.i64) 0,.slice none 0 0,.slice none 0 0]],[]⟩ 8 (by kernel_rfl) (by kernel_rfl) (by kernel_rfl) (by kernel_rfl)) ?_
 intro W base args ds gs before hval0 hW hcnd _;have hval: ∀(j:Nat) t v,Tryz.f3.params[j]?=some t->args[j]?=some v->Value.okWide Tryz.prog W .any base t v:=hval0
 have hW':=hW;obtain⟨p,q,hA0,hV,rfl,hfz,hnd⟩:=hW;have hA:DataW.TrodAll enc Tryz.prog W 0 (fun _=>true) true Tryz.f3.params.toList args.toList ds p:=hA0
 rw[Tryz.params3]at hA hval;obtain⟨v0,v1,d0,d1,p0,p1,rfl,rfl,rfl,h0,h1⟩:=trodAll_two hA;obtain⟨rfl,rfl⟩:=trodVars_none hV;have a0:=hval 0 26 v0 rfl rfl;have a1:=hval 1 29 v1 rfl rfl;simp only[Value.okWide,Tryz.underlying26,Tryz.underlying29]at a0 a1;obtain⟨n0,x0,f0,r0⟩:=aRk (of_decide_eq_true (by kernel_rfl)) (by decide) (a0.imp fun _ h=>h.1) h0
 obtain⟨n1,x1,f1,r1⟩:=aRk (of_decide_eq_true (by kernel_rfl)) (by decide) (a1.imp fun _ h=>h.1) h1
 obtain⟨pr,rfl,fpr⟩:=aSx (n:=n0+4) f0;obtain⟨l,rfl,fl⟩:=aWy (n:=n1) f1;clear hA0 hval0;obtain⟨n,hn⟩:=aBj hk fpr fl
 refine(aSl bH8 bMd (hn n (bN9 _)) (S:=aIw W) (w:=W) (vals:= #[v0,v1]) (fun _ _ h=>h) (fun v x ⟨g,cs,h,_⟩=>by cases h) rfl (fun i hi=>?_)).mono fun e W' ⟨he,hb⟩=>?_
 ·match i,hi with
  |0,_=>exact r0
  |1,_=>exact r1
 ·subst he;exact⟨_,rfl,aX2 (bt:=4) hW' rfl (by kernel_rfl) Tryz.underlying4 rfl aUp (fun t ht=>by
   rw[Tryz.params3]at ht;simp only[bO8,List.not_mem_nil,or_false]at ht;rcases ht with rfl|rfl<;>exact⟨by kernel_rfl,of_decide_eq_true (by kernel_rfl)⟩) hb⟩
theorem aHb :joinedFacts Tryz.prog 3 Tryz.f3 Rows.pastVerifiesSpec Rows.pastVerifiesRow=true:=by
 obtain⟨i1,i2⟩:=aNf bMk (f:=3) rfl;obtain⟨u1,u2⟩:=bEx (aDn (aDn (aGb _ 3).1 Tryz.func3 (by kernel_rfl)) Tryz.func10 (by kernel_rfl)) Tryz.func15 (by kernel_rfl)
 unfold joinedFacts OpenClaim.veiledFits Program.veiledOwn Program.readableRec Program.loopsFrom Program.mapsRec Program.ifacesRec Program.veiledRec Program.wideKeysFrom;simp only[bD4,i1,i2,u1,u2]
 kernel_rfl
theorem aRs (hk:PC L 10 [] (.bool true)):Rows.PastVerifiesSaid:=
 OpenClaim.holds_of_wide 3 Tryz.f3 rfl rfl rfl rfl rfl rfl rfl ⟨rfl,rfl,rfl,rfl,rfl⟩ rfl rfl rfl rfl rfl (by kernel_rfl) Tryz.func3 aHb
  (of_decide_eq_true (by kernel_rfl)) (by unfold Func.isWrapper;first|(rw[if_pos (by decide+kernel)];kernel_rfl)|(rw[if_neg (by decide+kernel)];exact⟨rfl,rfl⟩))
  (fun os started H enc _=>aHa hk os started H enc)
end Go.Proofs.YtmnchlhngpdffaaGreat
