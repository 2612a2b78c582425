/- Laws of logs: checked, begun, added to, cut. -/
import Derived.Test.YtmnchlhngpdffaaGreatM5
set_option linter.all false
open Bool renaming and_eq_true -> bPp, and_false -> bQ7, and_true -> bRl, eq_iff_iff -> bRd, not_false -> bP8, not_true -> bP3
open Int renaming eq_ofNat_of_zero_le -> bQv
open List renaming length_append -> bP9, length_map -> bPr, length_singleton -> bSd, length_take -> bQx, map_nil -> bP1, mem_append -> bQe, mem_of_mem_take -> bR0, mem_singleton -> bQ1
open Nat renaming le_refl -> bPq, le_trans -> bP2, zero_le -> bPx
namespace Go.Proofs.YtmnchlhngpdffaaGreat
open Go.Abs Go.Proofs
theorem uH :kW.few:=⟨bPx _,bPx _,fun w hw=>by cases hw⟩
variable {p:aF}{w:aA}
theorem aZ6 (hsp:aR p=true)(hw:bY p w=true)(every:Int):(aCj p w every).1.few:=by
 unfold aCj;split
 ·rename_i h
  refine⟨bPx _,by show(1:Nat)<=_;decide,fun x hx=>?_⟩
  rw[bQ1.1 hx];exact jT hsp (aI6 hw h).1
 ·exact uH
theorem aWt (hsp:aR p=true)(every:Int):(tG p w every).1.few:=by
 unfold tG;split
 ·rename_i h;exact aZ6 hsp h.1 every
 ·exact uH
variable {l:bP}
theorem aXv (hsp:aR p=true)(hok:gY p l=true): ∀w∈l.marks,w.few:=fun w hw=>rX (lW hsp ((nF hok).2.2.2.2 w hw))
theorem bFf (hsp:aR p=true)(hok:gY p l=true)(pick:Int):(aMs p l pick).1.few:=by
 have hl:=nQ.of hok;have hpk:=hl.pk;have hmk:=hl.mks;have hm:=aXv hsp hok;unfold aMs;split
 ·exact uH
 split
 ·rename_i h0
  simp only
  split
  ·have hf:(dL p (atX p l l.picks.length).1 pick).1.few:=by
    have hg:=pB hok (bPq _) h0;simp only[bY,bPp]at hg;exact rX (lW hsp (aUg (lV hg.1) hg.2 pick))
   refine⟨?_,?_,?_⟩
   ·simp only[bP9,bSd,Few];omega
   ·simp only;split
    ·simp only[bP9,bSd,Few];omega
    ·unfold Few;omega
   ·simp only;split
    ·intro w hw;rcases bQe.1 hw with h|h
     ·exact hm w h
     ·rw[bQ1.1 h];exact hf
    ·exact hm
  ·exact uH
 ·exact uH
theorem bFg (hsp:aR p=true)(hok:gY p l=true)(n:Nat):(aJi l n).few:=by
 have hl:=nQ.of hok;have hpk:=hl.pk;have hmk:=hl.mks
 refine⟨?_,?_,fun w hw=>aXv hsp hok w (bR0 hw)⟩
 ·show(l.picks.take n).length<=_;rw[bQx];omega
 ·show(l.marks.take (n/aL l+1)).length<=_;rw[bQx];exact bP2 (Nat.min_le_right _ _) (by omega)
set_option maxHeartbeats 4000000 in
theorem aJj (hk:PC L 10 [] (.bool true))(hpf:p.few)(hwf:w.few)(hlf:l.few)(every pick:Int):PC L 8 [.agg p.cs,.agg w.cs,.agg l.cs,.i every,.i pick] (.bool true):=by
 have c1:decide ((l.picks.length:Int)<=25)=decide (l.picks.length<=25):=by rw[bRd,bTe,bTe];omega
 have c2:decide ((200:Int)<=(l.picks.length:Int))=decide (200<=l.picks.length):=by rw[bRd,bTe,bTe];omega
 have c3:decide ((l.picks.length:Int)<=205)=decide (l.picks.length<=205):=by rw[bRd,bTe,bTe];omega
 have hl':(⟨l.every,[],l.marks⟩:bP).few:=⟨bPx _,hlf.2.1,hlf.2.2⟩;have hS:=aG0 hpf hl';simp only[Val.is,bP1]at hS;have hW:=wT w hwf
 refine aI L_8 rfl rfl ?_
 cases hsm:(aR p&&oQ ⟨l.every,[],l.marks⟩)with
 |false=>
  rw[hsm]at hS;generalize decide (l.picks.length<=25)=b1 at c1;generalize decide (200<=l.picks.length)=b2 at c2;generalize decide (l.picks.length<=205)=b3 at c3;cases b1<;>cases b2<;>cases b3
  all_goals simp only[go_sem,kK,C_8,bPr,c1,c2,c3,hS.ret,hk.ret,bP3,bP8,kF]
 |true=>
 rw[hsm]at hS;rw[bPp]at hsm;have hsp:=hsm.1;cases hsw:bW w with
 |false=>
  rw[hsw]at hW;generalize decide (l.picks.length<=25)=b1 at c1;generalize decide (200<=l.picks.length)=b2 at c2;generalize decide (l.picks.length<=205)=b3 at c3;cases b1<;>cases b2<;>cases b3
  all_goals simp only[go_sem,kK,C_8,bPr,c1,c2,c3,hS.ret,hW.ret,hk.ret,bP3,bP8,kF]
 |true=>
 rw[hsw]at hW;have hB:=aNl hpf hwf hsp every;have hF:=aDv p hpf (aEv hsp);have hWd:=aFt p w hpf hwf;have hbf:=aWt (p:=p) (w:=w) hsp every;have hSB:=xI (l:=(tG p w every).1) (b:=(tG p w every).1) hbf;simp only[decide_true]at hSB;have hgo:(bY p w=true/\ 1<=every/\ every<=20) \/(dV p=false) \/(dV p=true/\ cX p w=false) \/(dV p=true/\ cX p w=true/\ ¬1<=every) \/(dV p=true/\ cX p w=true/\ 1<=every/\ ¬every<=20):=by
  unfold bY;cases dV p<;>cases cX p w<;>simp<;>omega
 simp only[bP.enc]at hB hSB;have hC:=yA p l hpf hlf hsp;have hA:=aUq hpf hlf hsp pick;have hU:=aUo hpf hlf hsp every;simp only[bP.enc]at hA hU;have hL:=aM1 hpf hlf (aEv hsp);have hZ:=aRd uH;simp only[decide_true,kW,Val.is,bP1]at hZ;have hE0:dA .eql (.agg [.num,.num,.num,.num,.num]) (.agg [.i 0,.i 0,.i 0,.i 0,.i 0]) (.agg [.i 0,.i 0,.i 0,.i 0,.i 0])=some (.bool true):=rfl;have hfew:l.picks.length<=25 \/(¬l.picks.length<=25/\ 200<=l.picks.length/\ l.picks.length<=205) \/(¬l.picks.length<=25/\ ¬200<=l.picks.length) \/(¬l.picks.length<=25/\ 200<=l.picks.length/\ ¬l.picks.length<=205):=by omega
 rcases hfew with h25|⟨h25,h200,h205⟩|⟨h25,h200⟩|⟨h25,h200,h205⟩
 case inr.inr.inl=>simp only[go_sem,kK,C_8,bPr,c1,c2,D_f h25,D_f h200,hk.ret,bP8,kF]
 case inr.inr.inr=>simp only[go_sem,kK,C_8,bPr,c1,c2,c3,D_f h25,D_t h200,D_f h205,hk.ret,bP8,kF]
 case' inl=>simp only[go_sem,kK,C_8,bPr,c1,D_t h25,hS.ret,hW.ret,hB.ret,bP3,kF]
 case' inr.inl=>simp only[go_sem,kK,C_8,bPr,c1,c2,c3,D_f h25,D_t h200,D_t h205,hS.ret,hW.ret,hB.ret,bP3,kF]
 all_goals
  rcases hgo with⟨hg,he1,he2⟩|hf|⟨hf,hw⟩|⟨hf,hw,he1⟩|⟨hf,hw,he1,he2⟩
  case' inl=>
   have hg':=hg;simp only[bY,bPp]at hg';have hRB:=aRg (lV hg'.1) hsp hg'.2 every;rw[show aCj p w every=tG p w every from(if_pos ⟨hg,he1,he2⟩).symm]at hRB
   simp only[bP.enc]at hRB;rw[hg'.1]at hF;rw[hg'.2]at hWd;simp only[go_sem,kK,hF.ret,hWd.ret,D_t he1,D_t he2,hRB.ret,hSB.ret,bP3,decide_true,kF]
  case' inr.inl=>
   rw[hf]at hF;rw[show tG p w every=(kW,2)from if_neg (fun h=>by have:=h.1;unfold bY at this;rw[hf]at this;cases this)]at hSB⊢
   simp only[kW,Val.is,bP1]at hSB;simp only[go_sem,kK,hF.ret,kW,Val.is,bP1,hSB.ret,bP3,decide_true,kF]
  case' inr.inr.inl=>
   rw[hf]at hF;rw[hw]at hWd;rw[show tG p w every=(kW,2)from if_neg (fun h=>by have:=h.1;unfold bY at this;rw[hw,bQ7]at this;cases this)]at hSB⊢
   simp only[kW,Val.is,bP1]at hSB;simp only[go_sem,kK,hF.ret,hWd.ret,kW,Val.is,bP1,hSB.ret,bP3,decide_true,kF]
  case' inr.inr.inr.inl=>
   rw[hf]at hF;rw[hw]at hWd;rw[show tG p w every=(kW,2)from if_neg (fun h=>he1 h.2.1)]at hSB⊢
   simp only[kW,Val.is,bP1]at hSB;simp only[go_sem,kK,hF.ret,hWd.ret,D_f he1,kW,Val.is,bP1,hSB.ret,bP3,decide_true,kF]
  case' inr.inr.inr.inr=>
   rw[hf]at hF;rw[hw]at hWd;rw[show tG p w every=(kW,2)from if_neg (fun h=>he2 h.2.2)]at hSB⊢
   simp only[kW,Val.is,bP1]at hSB;simp only[go_sem,kK,hF.ret,hWd.ret,D_t he1,D_f he2,kW,Val.is,bP1,hSB.ret,bP3,decide_true,kF]
 all_goals
  by_cases hok:gY p l=true
  case' neg=>
   rw[show aEu p l=false by rw[pH];simpa using hok,if_neg (by decide)]at hC
   rw[show gY p l=false by simpa using hok]at hL
   rw[show aZ3 p l pick=(kW,eB,2)from if_neg hok]at hA
   rw[show aWp p l every=(kW,2)from if_neg (fun h=>hok h.1)]at hU
   simp only[kW,eB,jL,evV,Val.is,bP1]at hA hU;simp only[go_sem,kK,hC.ret,hA.ret,hU.ret,hL.ret,hZ.ret,hE0,hk.ret,bP8,decide_true,kF]
  case' pos=>
   have hl:=nQ.of hok;have hRA:=aWr hpf hsp hok pick;have hSA:=xI (l:=(aMs p l pick).1) (b:=(aMs p l pick).1) (bFf hsp hok pick);rw[show aEu p l=true by rw[pH];exact hok,if_pos rfl]at hC
   rw[hok]at hL;rw[show aZ3 p l pick=aMs p l pick from if_pos hok]at hA
   simp only[decide_true]at hSA;simp only[bP.enc,evV]at hRA hA;have hTn:=aAt l every;simp only[go_sem,kK,hC.ret,hA.ret,hU.ret,hL.ret,hRA.ret,hSA.ret,aXu,bP3,decide_true,kF]
 all_goals
  by_cases hn:inR every 0 l.picks.length=true
  case' neg=>
   rw[show inR every 0 l.picks.length=false by simpa using hn]at hTn
   rw[show aWp p l every=(kW,2)from if_neg (fun h=>hn (by simp only[inR,bTe];exact h.2))]
   simp only[go_sem,kK,hTn.ret,kW,Val.is,bP1,hZ.ret,hk.ret,bP8,decide_true,kF]
  case' pos=>
   rw[hn]at hTn;have hn':0<=every/\ every<=(l.picks.length:Int):=by simp only[inR,bTe]at hn;exact hn
   obtain⟨m,hm⟩:=bQv hn'.1;have hRC:=aWq hl (n:=m) (by omega)
   have hSC:=xI (l:=aJi l m) (b:=aJi l m) (bFg hsp hok m);rw[show aWp p l every=(aJi l m,0)by unfold aWp;rw[if_pos ⟨hok,hn'⟩,hm];rfl]
   rw[<-hm]at hRC;simp only[decide_true]at hSC;simp only[bP.enc]at hRC;simp only[go_sem,kK,hTn.ret,bP3]
   refine aH ?_
   simp only[go_sem,hRC.ret,hSC.ret,hk.ret,bRl,bQ7,decide_true,kA,kF]
 all_goals skip
end Go.Proofs.YtmnchlhngpdffaaGreat

