/- Worlds after turns and within them, and events, are as stated: for all programs, logs and numbers. -/
import Derived.Test.YtmnchlhngpdffaaGreatQF
import Derived.Test.YtmnchlhngpdffaaGreatM5
set_option linter.all false
open List renaming mem_cons -> bQm, not_mem_nil -> bSu
open Nat renaming le_refl -> bPq
namespace Go.Proofs.YtmnchlhngpdffaaGreat
open Go.Abs Go.Proofs Tryz
open Go.ChangeShapes Go.WideShapes Go.ChangeAt Go.RowKit
set_option maxRecDepth 100000
theorem aNp (hk:PC L 10 [] (.bool true))(os:Os)(started:os.Started)(H:Type)(enc:TypeId×Value->H):
  ReturnsInHanded {} Tryz.checked os 4 .any (Rows.pastWorldsSpec.pre6 enc Tryz.prog Tryz.f4 Rows.pastWorldsRow.domain false) (Rows.pastWorldsSpec.post enc Tryz.prog Tryz.f4 false true false false):=by
 refine returnsInHanded_of_change (C:=Tryz.checked) own started (by kernel_rfl) func4
  (ChangeSpec.witness6 (enc:=enc) (C:=Tryz.checked) false ⟨#[],#[.agg #[.slice none 0 0,.slice none 0 0,.int (.i64) 0,.slice none 0 0],.agg #[.int (.i64) 0,.slice none 0 0,.slice none 0 0],.int (.i64) 0,.int (.i64) 0],[]⟩ 8 (by kernel_rfl) (by kernel_rfl) (by kernel_rfl) (by kernel_rfl)) ?_
 intro W base args ds gs before hval0 hW hcnd _;have hval: ∀(j:Nat) t v,Tryz.f4.params[j]?=some t->args[j]?=some v->Value.okWide Tryz.prog W .any base t v:=hval0
 have hW':=hW;obtain⟨p,q,hA0,hV,rfl,hfz,hnd⟩:=hW;have hA:DataW.TrodAll enc Tryz.prog W 0 (fun _=>true) true Tryz.f4.params.toList args.toList ds p:=hA0
 rw[Tryz.params4]at hA hval;obtain⟨v0,v1,v2,v3,d0,d1,d2,d3,p0,p1,p2,p3,rfl,rfl,rfl,h0,h1,h2,h3⟩:=trodAll_four hA;obtain⟨rfl,rfl⟩:=trodVars_none hV;have a0:=hval 0 26 v0 rfl rfl;have a1:=hval 1 29 v1 rfl rfl;simp only[Value.okWide,Tryz.underlying26,Tryz.underlying29]at a0 a1;obtain⟨n0,x0,f0,r0⟩:=aCk (D_o (by kernel_rfl)) (by decide) (a0.imp fun _ h=>h.1) h0
 obtain⟨n1,x1,f1,r1⟩:=aCk (D_o (by kernel_rfl)) (by decide) (a1.imp fun _ h=>h.1) h1
 obtain⟨pr,rfl,fpr⟩:=aLh (n:=n0+4) f0;obtain⟨l,rfl,fl⟩:=aO6 (n:=n1) f1;obtain⟨c2,rfl,rfl,rfl,w2⟩:=open_int Tryz.underlying3 (hval 2 3 v2 rfl rfl) h2;obtain⟨c3,rfl,rfl,rfl,w3⟩:=open_int Tryz.underlying3 (hval 3 3 v3 rfl rfl) h3;clear hA0 hval0;obtain⟨n,hn⟩:=aG1 hk fpr fl c2 c3 (bIc w3)
 refine(aKr bGh bKi (hn n (bPq _)) (S:=aIi W) (w:=W) (vals:= #[v0,v1,.int (.i64) c2,.int (.i64) c3]) (fun _ _ h=>h) (fun v x ⟨g,cs,h,_⟩=>by cases h) rfl (fun i hi=>?_)).mono fun e W' ⟨he,hb⟩=>?_
 ·match i,hi with
  |0,_=>exact r0
  |1,_=>exact r1
  |2,_=>exact .int _ _
  |3,_=>exact .int _ _
 ·subst he;exact⟨_,rfl,aSf (bt:=4) hW' rfl (by kernel_rfl) Tryz.underlying4 rfl aQ8 (fun t ht=>by
   rw[Tryz.params4]at ht;simp only[bQm,bSu,or_false]at ht;rcases ht with rfl|rfl|rfl|rfl<;>exact⟨by kernel_rfl,D_o (by kernel_rfl)⟩) hb⟩
theorem aNq :joinedFacts Tryz.prog 4 Tryz.f4 Rows.pastWorldsSpec Rows.pastWorldsRow=true:=by
 obtain⟨i1,i2⟩:=aFp bKn (f:=4) rfl;obtain⟨u1,u2⟩:=bBr (zY (aBt _ 4).1 func4 (by kernel_rfl)) func15 (by kernel_rfl)
 unfold joinedFacts OpenClaim.veiledFits Program.veiledOwn Program.readableRec Program.loopsFrom Program.mapsRec Program.ifacesRec Program.veiledRec Program.wideKeysFrom;simp only[bA4,i1,i2,u1,u2]
 kernel_rfl
theorem aZ5 (hk:PC L 10 [] (.bool true)):Rows.PastWorldsSaid:=
 OpenClaim.holds_of_wide 4 Tryz.f4 rfl rfl rfl rfl rfl rfl rfl ⟨rfl,rfl,rfl,rfl,rfl⟩ rfl rfl rfl rfl rfl (by kernel_rfl) func4 aNq
  (D_o (by kernel_rfl)) (by unfold Func.isWrapper;first|(rw[if_pos (by decide+kernel)];kernel_rfl)|(rw[if_neg (by decide+kernel)];exact⟨rfl,rfl⟩))
  (fun os started H enc _=>aNp hk os started H enc)
end Go.Proofs.YtmnchlhngpdffaaGreat

