/- Laws of logs: firsts. -/
import Derived.Test.YtmnchlhngpdffaaGreatM7
set_option linter.all false
open Bool renaming and_eq_true -> bOx, not_false -> bPh, not_true -> bPd
open Int renaming eq_ofNat_of_zero_le -> bP2
namespace Go.Proofs.YtmnchlhngpdffaaGreat
open Go.Abs Go.Proofs Tryz
set_option maxRecDepth 100000
set_option maxHeartbeats 4000000
variable {l:cC}{p:aF}
theorem zE (hpf:p.few)(hlf:l.few)(hsp:aS p=true)(what n:Int){x:Int×Int}(hx:x=rG p l (fun w=>pF w what) n):
  PC L 32 [.agg p.cs,.agg l.cs,.i what,.i n,.i x.1,.i x.2] (.bool true):=by
 have hL:=aDt hpf hlf (aDu hsp);have hLz:=at_ func32
 conv at hLz=>rhs;reduce
 refine aG hLz rfl rfl ?_
 by_cases hok:fY p l=true
 case neg=>
  rw[show fY p l=false by simpa using hok]at hL
  rw[show x=(0,2)from hx.trans (if_neg (fun h=>hok h.1))]
  simp only[go_sem,kK,hL.ret,bPh,decide_true,kF]
 rw[hok]at hL
 by_cases hn:0<=n
 case neg=>
  rw[show x=(0,2)from hx.trans (if_neg (fun h=>hn h.2))]
  simp only[go_sem,kK,hL.ret,decide_eq_true (show n<0 by omega),bPd,decide_true,kF]
 have hM:=aTp hpf hsp hok what n;rw[show x=rY p l (fun w=>pF w what) n from hx.trans (if_pos ⟨hok,hn⟩)]
 simp only[go_sem,kK,hL.ret,hM.ret,decide_eq_false (show¬n<0 by omega),bPd,decide_true,kF]
theorem aFx (hk:PC L 10 [] (.bool true))(hpf:p.few)(hlf:l.few)(n:Int)(c:fO):PC L 6 [.agg p.cs,.agg l.cs,.i n,c.enc] (.bool true):=by
 have hS:=aFv hpf hlf;have hcE:c.enc= .agg [.i c.kind,.i c.n,.i c.v.kind,.i c.v.n]:=rfl;rw[hcE];have hLz:=at_ func6
 conv at hLz=>rhs;reduce
 refine aG hLz rfl rfl ?_
 cases hsm:(aS p&&oB l)with
 |false=>
  rw[hsm]at hS;simp only[go_sem,kK,hS.ret,hk.ret,bPh,kF]
 |true=>
 rw[hsm]at hS;rw[bOx]at hsm;have hsp:=hsm.1;have h1:=aLp hpf hlf hsp n;have h2:=aLq hpf hlf hsp n;have h3:=aQa hpf hlf hsp n;have f1:=zE hpf hlf hsp 0 n (x:=rG p l (fun w=>(w.outs.length:Int)) n) rfl
 have f2:=zE hpf hlf hsp 1 n (x:=rG p l (fun w=>w.used) n) rfl
 have f3:=zE hpf hlf hsp 2 n (x:=rG p l (fun w=>(w.objs.length:Int)) n) rfl
 have hF:=aQb hpf hlf hsp n c;have hWh:=aTo c;rw[hcE]at hF hWh;have hL:=aDt hpf hlf (aDu hsp);have hTn:=aFt l n;simp only[go_sem,kK,hS.ret,h1.ret,h2.ret,h3.ret,f1.ret,f2.ret,f3.ret,hF.ret,bPd,kF]
 by_cases hok:fY p l=true
 case neg=>
  rw[show fY p l=false by simpa using hok]at hL
  rw[show aLr p l n c=(0,2)from if_neg (fun h=>hok h.1)]
  simp only[go_sem,kK,hL.ret,hk.ret,bPh,decide_true,kF]
 rw[hok]at hL
 by_cases hc:rE c=true
 case neg=>
  rw[show rE c=false by simpa using hc]at hWh
  rw[show aLr p l n c=(0,2)from if_neg (fun h=>hc h.2.2)]
  simp only[go_sem,kK,hL.ret,hWh.ret,hk.ret,bPd,bPh,decide_true,kF]
 rw[hc]at hWh
 by_cases hn:inR n 0 l.picks.length=true
 case neg=>
  rw[show inR n 0 l.picks.length=false by simpa using hn]at hTn
  rw[show aLr p l n c=(0,2)from if_neg (fun h=>hn (by simp only[inR,bSi];exact h.2.1))]
  simp only[go_sem,kK,hL.ret,hWh.ret,hTn.ret,hk.ret,bPd,bPh,decide_true,kF]
 rw[hn]at hTn;have hn':0<=n/\ n<=(l.picks.length:Int):=by simp only[inR,bSi]at hn;exact hn
 obtain⟨m,rfl⟩:=bP2 hn'.1;have hX:=aTq hpf hsp hok (a:=m) (by omega) c
 rw[hcE]at hX;rw[show aLr p l m c=aHy p l m c from if_pos ⟨hok,hn',hc⟩]
 simp only[go_sem,kK,hL.ret,hWh.ret,hTn.ret,hX.ret,hk.ret,bPd,decide_true,kF]
end Go.Proofs.YtmnchlhngpdffaaGreat

