import Derived.Test.YtmafmhjndjmalaaGreatQOd
import Derived.Test.YtmafmhjndjmalaaGreatM5d
set_option linter.all false
open List renaming mem_cons -> bRm
open Nat renaming le_refl -> bQk
namespace Go.Proofs.YtmafmhjndjmalaaGreat
open Go.Abs Go.Proofs Tryz
open Go.ChangeShapes Go.WideShapes Go.ChangeAt Go.RowKit
set_option maxRecDepth 100000
theorem aVs (hk:PC L 9 [] (.bool true))(os:Os)(started:os.Started)(H:Type)(enc:TypeId×Value->H):
  ReturnsInHanded {} Tryz.checked os 5 .any (Rows.pastDidSpec.pre6 enc Tryz.prog Tryz.f5 Rows.pastDidRow.domain false) (Rows.pastDidSpec.post enc Tryz.prog Tryz.f5 false true false false):=by
 refine returnsInHanded_of_change (C:=Tryz.checked) own started (by kernel_rfl) func5
  (ChangeSpec.witness6 (enc:=enc) (C:=Tryz.checked) false ⟨#[],#[.agg #[.slice none 0 0,.slice none 0 0,.int (.i64) 0,.slice none 0 0],.agg #[.slice none 0 0,.slice none 0 0,.slice none 0 0,.slice none 0 0,.int (.i64) 0],.slice none 0 0,.int (.i64) 0,.int (.i64) 0,.agg #[.int (.i64) 0,.int (.i64) 0,.int (.i64) 0,.int (.i64) 0]],[]⟩ 8 (by kernel_rfl) (by kernel_rfl) (by kernel_rfl) (by kernel_rfl)) ?_
 intro W base args ds gs before hval0 hW hcnd _;have hval: ∀(j:Nat) t v,Tryz.f5.params[j]?=some t->args[j]?=some v->Value.okWide Tryz.prog W .any base t v:=hval0
 have hW':=hW;obtain⟨p,q,hA0,hV,rfl,hfz,hnd⟩:=hW;have hA:DataW.TrodAll enc Tryz.prog W 0 (fun _=>true) true Tryz.f5.params.toList args.toList ds p:=hA0
 rw[Tryz.params5]at hA hval;obtain⟨v0,v1,v2,v3,v4,v5,d0,d1,d2,d3,d4,d5,p0,p1,p2,p3,p4,p5,rfl,rfl,rfl,h0,h1,h2,h3,h4,h5⟩:=aS9 hA;obtain⟨rfl,rfl⟩:=trodVars_none hV;have a0:=hval 0 26 v0 rfl rfl;have a1:=hval 1 30 v1 rfl rfl;have a5:=hval 5 71 v5 rfl rfl;simp only[Value.okWide,Tryz.underlying26,Tryz.underlying30,Tryz.underlying71]at a0 a1 a5;obtain⟨n0,x0,f0,r0⟩:=aLr (D_o (by kernel_rfl)) (by decide) (a0.imp fun _ h=>h.1) h0
 obtain⟨n1,x1,f1,r1⟩:=aLr (D_o (by kernel_rfl)) (by decide) (a1.imp fun _ h=>h.1) h1
 obtain⟨n5,x5,f5,r5⟩:=aLr (D_o (by kernel_rfl)) (by decide) (a5.imp fun _ h=>h.1) h5
 obtain⟨pr,rfl,fpr⟩:=aUt (n:=n0+4) f0;obtain⟨w,rfl,fw⟩:=aR5 (n:=n1+2) f1;obtain⟨c2,fl2,r2⟩:=aY8 (bCp (hval 2 23 v2 rfl rfl)) h2;obtain⟨c3,rfl,rfl,rfl,w3⟩:=open_int Tryz.underlying3 (hval 3 3 v3 rfl rfl) h3;obtain⟨c4,rfl,rfl,rfl,w4⟩:=open_int Tryz.underlying3 (hval 4 3 v4 rfl rfl) h4;obtain⟨c5,rfl⟩:=aVe (n:=n5+7) f5;clear hA0 hval0;obtain⟨n,hn⟩:=aL4 hk fpr fw c2 c3 c4 c5
 refine(aUg bK4 bO2 (hn n (bQk _)) (S:=aHd W) (w:=W) (vals:= #[v0,v1,v2,.int (.i64) c3,.int (.i64) c4,v5]) (fun _ _ h=>h) (fun v x ⟨g,cs,h,_⟩=>by cases h) rfl (fun i hi=>?_)).mono fun e W' ⟨he,hb⟩=>?_
 ·match i,hi with
  |0,_=>exact r0
  |1,_=>exact r1
  |2,_=>exact r2
  |3,_=>exact .int _ _
  |4,_=>exact .int _ _
  |5,_=>exact r5
 ·subst he;exact⟨_,rfl,bAm (bt:=4) hW' rfl (by kernel_rfl) Tryz.underlying4 rfl aP6 (fun t ht=>by
   rw[Tryz.params5]at ht;simp only[bRm,List.not_mem_nil,or_false]at ht;rcases ht with rfl|rfl|rfl|rfl|rfl|rfl<;>exact⟨by kernel_rfl,D_o (by kernel_rfl)⟩) hb⟩
theorem aVt :joinedFacts Tryz.prog 5 Tryz.f5 Rows.pastDidSpec Rows.pastDidRow=true:=by
 obtain⟨i1,i2⟩:=aO7 bO6 (f:=5) rfl;obtain⟨u1,u2⟩:=bHs (aEl (aEl (aHg _ 5).1 func5 (by kernel_rfl)) func9 (by kernel_rfl)) func14 (by kernel_rfl)
 unfold joinedFacts OpenClaim.veiledFits Program.veiledOwn Program.readableRec Program.loopsFrom Program.mapsRec Program.ifacesRec Program.veiledRec Program.wideKeysFrom;simp only[bG3,i1,i2,u1,u2]
 kernel_rfl
theorem bIf (hk:PC L 9 [] (.bool true)):Rows.PastDidSaid:=
 OpenClaim.holds_of_wide 5 Tryz.f5 rfl rfl rfl rfl rfl rfl rfl ⟨rfl,rfl,rfl,rfl,rfl⟩ rfl rfl rfl rfl rfl (by kernel_rfl) func5 aVt
  (D_o (by kernel_rfl)) (by unfold Func.isWrapper;first|(rw[if_pos (by decide+kernel)];kernel_rfl)|(rw[if_neg (by decide+kernel)];exact⟨rfl,rfl⟩))
  (fun os started H enc _=>aVs hk os started H enc)
end Go.Proofs.YtmafmhjndjmalaaGreat
