/- Logs are checked, begun, added to and cut as stated: for all programs, worlds, logs and numbers. -/
import Derived.Test.YtmnchlhngpdffaaGreatQF
import Derived.Test.YtmnchlhngpdffaaGreatM12
set_option linter.all false
open List renaming mem_cons -> bQm, not_mem_nil -> bSu
open Nat renaming le_refl -> bPq
namespace Go.Proofs.YtmnchlhngpdffaaGreat
open Go.Abs Go.Proofs Tryz
open Go.ChangeShapes Go.WideShapes Go.ChangeAt Go.RowKit
set_option maxRecDepth 100000
theorem aUu (hk:PC L 10 [] (.bool true))(os:Os)(started:os.Started)(H:Type)(enc:TypeId×Value->H):
  ReturnsInHanded {} Tryz.checked os 8 .any (Rows.pastLogsSpec.pre6 enc Tryz.prog Tryz.f8 Rows.pastLogsRow.domain false) (Rows.pastLogsSpec.post enc Tryz.prog Tryz.f8 false true false false):=by
 refine returnsInHanded_of_change (C:=Tryz.checked) own started (by kernel_rfl) func8
  (ChangeSpec.witness6 (enc:=enc) (C:=Tryz.checked) false ⟨#[],#[.agg #[.slice none 0 0,.slice none 0 0,.int (.i64) 0,.slice none 0 0],.agg #[.slice none 0 0,.slice none 0 0,.slice none 0 0,.slice none 0 0,.int (.i64) 0],.agg #[.int (.i64) 0,.slice none 0 0,.slice none 0 0],.int (.i64) 0,.int (.i64) 0],[]⟩ 8 (by kernel_rfl) (by kernel_rfl) (by kernel_rfl) (by kernel_rfl)) ?_
 intro W base args ds gs before hval0 hW hcnd _;have hval: ∀(j:Nat) t v,Tryz.f8.params[j]?=some t->args[j]?=some v->Value.okWide Tryz.prog W .any base t v:=hval0
 have hW':=hW;obtain⟨p,q,hA0,hV,rfl,hfz,hnd⟩:=hW;have hA:DataW.TrodAll enc Tryz.prog W 0 (fun _=>true) true Tryz.f8.params.toList args.toList ds p:=hA0
 rw[Tryz.params8]at hA hval;obtain⟨v0,v1,v2,v3,v4,d0,d1,d2,d3,d4,p0,p1,p2,p3,p4,rfl,rfl,rfl,h0,h1,h2,h3,h4⟩:=aQ9 hA;obtain⟨rfl,rfl⟩:=trodVars_none hV;have a0:=hval 0 26 v0 rfl rfl;have a1:=hval 1 39 v1 rfl rfl;have a2:=hval 2 29 v2 rfl rfl;simp only[Value.okWide,Tryz.underlying26,Tryz.underlying39,Tryz.underlying29]at a0 a1 a2;obtain⟨n0,x0,f0,r0⟩:=aCk (D_o (by kernel_rfl)) (by decide) (a0.imp fun _ h=>h.1) h0
 obtain⟨n1,x1,f1,r1⟩:=aCk (D_o (by kernel_rfl)) (by decide) (a1.imp fun _ h=>h.1) h1
 obtain⟨n2,x2,f2,r2⟩:=aCk (D_o (by kernel_rfl)) (by decide) (a2.imp fun _ h=>h.1) h2
 obtain⟨pr,rfl,fpr⟩:=aLh (n:=n0+4) f0;obtain⟨w,rfl,fw⟩:=aIq (n:=n1+2) f1;obtain⟨l,rfl,fl⟩:=aO6 (n:=n2) f2;obtain⟨c3,rfl,rfl,rfl,w3⟩:=open_int Tryz.underlying3 (hval 3 3 v3 rfl rfl) h3;obtain⟨c4,rfl,rfl,rfl,w4⟩:=open_int Tryz.underlying3 (hval 4 3 v4 rfl rfl) h4;clear hA0 hval0;obtain⟨n,hn⟩:=aJj hk fpr fw fl c3 c4
 refine(aKr bGh bKi (hn n (bPq _)) (S:=aIi W) (w:=W) (vals:= #[v0,v1,v2,.int (.i64) c3,.int (.i64) c4]) (fun _ _ h=>h) (fun v x ⟨g,cs,h,_⟩=>by cases h) rfl (fun i hi=>?_)).mono fun e W' ⟨he,hb⟩=>?_
 ·match i,hi with
  |0,_=>exact r0
  |1,_=>exact r1
  |2,_=>exact r2
  |3,_=>exact .int _ _
  |4,_=>exact .int _ _
 ·subst he;exact⟨_,rfl,aSf (bt:=4) hW' rfl (by kernel_rfl) Tryz.underlying4 rfl aQ8 (fun t ht=>by
   rw[Tryz.params8]at ht;simp only[bQm,bSu,or_false]at ht;rcases ht with rfl|rfl|rfl|rfl|rfl<;>exact⟨by kernel_rfl,D_o (by kernel_rfl)⟩) hb⟩
theorem aUv :joinedFacts Tryz.prog 8 Tryz.f8 Rows.pastLogsSpec Rows.pastLogsRow=true:=by
 obtain⟨i1,i2⟩:=aFp bKn (f:=8) rfl;obtain⟨u1,u2⟩:=bBr (zY (zY (aBt _ 8).1 func8 (by kernel_rfl)) func10 (by kernel_rfl)) func15 (by kernel_rfl)
 unfold joinedFacts OpenClaim.veiledFits Program.veiledOwn Program.readableRec Program.loopsFrom Program.mapsRec Program.ifacesRec Program.veiledRec Program.wideKeysFrom;simp only[bA4,i1,i2,u1,u2]
 kernel_rfl
theorem bFh (hk:PC L 10 [] (.bool true)):Rows.PastLogsSaid:=
 OpenClaim.holds_of_wide 8 Tryz.f8 rfl rfl rfl rfl rfl rfl rfl ⟨rfl,rfl,rfl,rfl,rfl⟩ rfl rfl rfl rfl rfl (by kernel_rfl) func8 aUv
  (D_o (by kernel_rfl)) (by unfold Func.isWrapper;first|(rw[if_pos (by decide+kernel)];kernel_rfl)|(rw[if_neg (by decide+kernel)];exact⟨rfl,rfl⟩))
  (fun os started H enc _=>aUu hk os started H enc)
end Go.Proofs.YtmnchlhngpdffaaGreat

