/- Contracts of functions of the program and of the document: part 15. -/
import Derived.Test.YtmafmhjndjmalaaGreatM12s
set_option linter.all false
open Bool renaming and_eq_true -> bSw, not_false -> bTf, not_true -> bS6
open Int renaming eq_ofNat_of_zero_le -> bTs, not_lt -> bUe
open List renaming length_map -> bSy, map_nil -> bTe
open Nat renaming le_of_lt -> bU8, le_refl -> bSx, lt_or_ge -> bT5, zero_le -> bS4
namespace Go.Proofs.YtmafmhjndjmalaaGreat
open Go.Abs Go.Proofs
theorem bIm {P:Nat->Prop}: ∀(b:Nat),P b-> ∃q,q<=b/\ P q/\ ∀i,i<q-> ¬P i:=by
 intro b
 induction b using Nat.strongRecOn with
 |ind b ih=>
  intro hb
  by_cases h: ∃i,i<b/\ P i
  ·obtain⟨i,hi,hp⟩:=h;obtain⟨q,h1,h2,h3⟩:=ih i hi hp;exact⟨q,by omega,h2,h3⟩
  ·exact⟨b,bSx b,hb,fun i hi hp=>h ⟨i,hi,hp⟩⟩
variable {p:aD}
theorem aWa {x y:aA}{b:Nat}(hb:b<x.tasks.length)(h2: ¬(aM p x b).what=2)(hw:(aM p x b).w=y):
  ∃q,q<x.tasks.length/\ ¬(aM p x q).what=2/\ (aM p x q).w=y/\ ∀i:Nat,i<q->(aM p x i).what=2 \/ ¬(aM p x i).w=y:=by
 obtain⟨q,h1,⟨h3,h4⟩,h5⟩:=bIm (P:=fun i:Nat=> ¬(aM p x i).what=2/\ (aM p x i).w=y) b ⟨h2,hw⟩
 refine⟨q,by omega,h3,h4,fun i hi=>?_⟩
 have:=h5 i hi
 by_cases h:(aM p x i).what=2
 ·exact .inl h
 ·exact .inr fun h'=>this ⟨h,h'⟩
variable {w:aA}
section
variable {ks:List Int}{every:Int}{m:Nat}(h:gJ p w ks every m)(hc:pF p w w.tasks.length)
include h hc
theorem gJ.within {t:Nat}(ht:t<m)(n:Nat)(h0:(dW p (cZ p w ks every m) t n).2=0):
  bJ p (dW p (cZ p w ks every m) t n).1=true/\
  (((dW p (cZ p w ks every m) t (n+1)).2=0/\ ∃q,q<(dW p (cZ p w ks every m) t n).1.tasks.length/\ ¬(aM p (dW p (cZ p w ks every m) t n).1 q).what=2/\ (aM p (dW p (cZ p w ks every m) t n).1 q).w=(dW p (cZ p w ks every m) t (n+1)).1/\
   (∀i:Nat,i<q->(aM p (dW p (cZ p w ks every m) t n).1 i).what=2 \/ ¬(aM p (dW p (cZ p w ks every m) t n).1 i).w=(dW p (cZ p w ks every m) t (n+1)).1)/\
   ((n=0/\ (aM p (dW p (cZ p w ks every m) t n).1 q).what=1/\ (aM p (dW p (cZ p w ks every m) t n).1 q).e=(tAt p w ks t).2.1) \/(¬n=0/\ (aM p (dW p (cZ p w ks every m) t n).1 q).what=0))) \/
  (¬n=0/\ dW p (cZ p w ks every m) t (n+1)=(tR,5)/\ (dW p (cZ p w ks every m) t n).1=wAt p w ks (t+1))):=by
 obtain⟨z0,a,ha,zn⟩:=h.inside hc ht;have hgt:=kP (ks:=ks) h.g t;cases n with
 |zero=>
  rw[zn 0,z0];have e0:dK p (aM p (wAt p w ks t) a).w 0=((aM p (wAt p w ks t) a).w,0):=nM ..;rw[e0]
  refine⟨hgt,.inl ⟨rfl,?_⟩⟩
  obtain⟨q,q1,q2,q3,q4⟩:=aWa (p:=p) ha.lt (by rw[ha.what];decide) rfl
  have hcal:=h.calm hc t (by omega) q q1 q1
  have hq1:(aM p (wAt p w ks t) q).what=1:=((oI hgt q1).2.2.2.resolve_left hcal).resolve_right q2;have hqa:q=a:=bE5 hgt q1 ha.lt hq1 q3;have hev:(tAt p w ks t).2.1=(aM p (wAt p w ks t) a).e:=ha.ev;exact⟨q,q1,q2,q3,q4,.inl ⟨rfl,hq1,by rw[hqa,hev]⟩⟩
 |succ n=>
  rw[zn n]at h0⊢;have hz:(dK p (aM p (wAt p w ks t) a).w n).2=0:=by
   split at h0
   ·assumption
   ·cases h0
  rw[if_pos hz,zn (n+1)];have hgn:=(sD 121 0 n ha.mid).1;have e: ∀s,bQ p 121 0 (aM p (wAt p w ks t) a).w s=dK p (aM p (wAt p w ks t) a).w s:=fun s=>rfl
  rw[e]at hgn
  refine⟨hgn,?_⟩
  rcases aV8 ha.mid ha.fine n hz with⟨h1,h2⟩|⟨h1,b,hb,h2,h3⟩
  ·rw[if_neg h1];exact .inr ⟨Nat.succ_ne_zero n,rfl,by rw[h2];exact ha.world.symm⟩
  ·rw[if_pos h1]
   refine .inl ⟨rfl,?_⟩
   obtain⟨q,q1,q2,q3,q4⟩:=aWa (p:=p) hb (by rw[h2];decide) h3.symm
   refine⟨q,q1,q2,q3,q4,.inr ⟨Nat.succ_ne_zero n,?_⟩⟩
   rcases(oI hgn q1).2.2.2 with h'|h'|h'
   ·exact h'
   ·have hqb:q=b:=bE5 hgn q1 hb h' (q3.trans h3);rw[hqb,h2]at h';exact absurd h' (by decide)
   ·exact absurd h' q2
end
def C_6 :fR:={np:=5,res:=[.tmp 10],keep:=false,body:=
 (.seq (.ops [bX 5 4 0,
 bX 6 5 1,
 mC 10 (.bool false)])
 (.seq (.seq (.ops [lT 30 4 5,
 lT 31 5 6,
 mT 32 2,
 mT 33 3,
 cL 34 8 [(.t 30),(.t 31),(.t 32),(.t 33)],
 nT 35 34])
 (.cond (.t 35)
 (.seq (.ops [cL 36 9 [],
 mT 10 36])
 .ret)
 .skip))
 (.seq (.ops [lT 38 4 5,
 lT 39 5 6,
 mT 40 2,
 mT 41 3,
 cL 42 10 [(.t 38),(.t 39),(.t 40),(.t 41)],
 mT 37 42,
 o 43 (.ext 0 (.t 37)),
 o 44 (.ext 1 (.t 37)),
 o 45 (.ext 2 (.t 37)),
 o 46 (.ext 3 (.t 37)),
 o 11 (.alloc [(.int .i64 0),(.cl []),(.cl [])]),
 sT 3 11 43,
 mT 12 44,
 mT 13 45,
 mT 14 46])
 (.seq (.seq (.ops [mT 47 13,
 nT 48 47,
 mT 49 48,
 gM 50 49 false 14,
 og 51 49 false (.un .not (.t 50)),
 pO 52 49 51])
 (.cond (.t 52)
 (.seq (.ops [mT 53 14,
 mT 54 53,
 gL 55 54 true 9 [],
 pA 56 54 55,
 mT 10 56])
 .ret)
 .skip))
 (.seq (.seq (.ops [mT 57 4,
 bN 58 .lss (.t 57) (cI 0),
 mT 59 58,
 gM 60 59 false 4,
 gM 61 59 false 12,
 gN 62 59 false 61,
 gB 63 59 false .geq (.t 60) (.t 62),
 pO 64 59 63])
 (.cond (.t 64)
 (.seq (.ops [cL 65 9 [],
 mT 10 65])
 .ret)
 .skip))
 (.seq (.ops [lT 67 4 5,
 lT 68 3 11,
 mT 69 4,
 cL 70 12 [(.t 67),(.t 68),(.t 69)],
 mT 66 70,
 o 71 (.ext 0 (.t 66)),
 o 72 (.ext 1 (.t 66)),
 o 73 (.ext 2 (.t 66)),
 o 15 (.alloc [(.cl []),(.cl []),(.cl []),(.cl []),(.int .i64 0)]),
 sT 5 15 71,
 mT 16 72,
 mT 17 73])
 (.seq (.ops [lT 75 4 5,
 lT 76 3 11,
 mT 77 4,
 bN 78 .add (.t 77) (cI 1),
 cL 79 12 [(.t 75),(.t 76),(.t 78)],
 mT 74 79,
 o 80 (.ext 0 (.t 74)),
 o 81 (.ext 1 (.t 74)),
 o 82 (.ext 2 (.t 74)),
 o 18 (.alloc [(.cl []),(.cl []),(.cl []),(.cl []),(.int .i64 0)]),
 sT 5 18 80,
 mT 19 81,
 mT 20 82])
 (.seq (.ops [lT 84 4 5,
 lT 85 3 11,
 mT 86 4,
 cL 87 29 [(.t 84),(.t 85),(.t 86),(cI 0)],
 mT 83 87,
 o 88 (.ext 0 (.t 83)),
 o 89 (.ext 1 (.t 83)),
 o 21 (.alloc [(.cl []),(.cl []),(.cl []),(.cl []),(.int .i64 0)]),
 sT 5 21 88,
 mT 22 89])
 (.seq (.seq (.ops [mT 90 17,
 bN 91 .neq (.t 90) (cI 0),
 mT 92 91,
 gM 93 92 false 20,
 gB 94 92 false .neq (.t 93) (cI 0),
 pO 95 92 94,
 mT 96 95,
 gM 97 96 false 22,
 gB 98 96 false .neq (.t 97) (cI 0),
 pO 99 96 98,
 mT 100 99,
 gT 101 100 false 5 21,
 gT 102 100 false 5 15,
 gL 103 100 false 15 [(.t 101),(.t 102)],
 og 104 100 false (.un .not (.t 103)),
 pO 105 100 104,
 mT 106 105,
 gT 107 106 false 4 5,
 gT 108 106 false 5 15,
 gL 109 106 false 19 [(.t 107),(.t 108)],
 og 110 106 false (.un .not (.t 109)),
 pO 111 106 110])
 (.cond (.t 111)
 (.seq (.ops [mC 10 (.bool false)])
 .ret)
 .skip))
 (.seq (.ops [mC 23 (.int .i64 0)])
 (.seq (.seq (.ops [mC 24 (.int .i64 1)])
 (.block 0 (.loop (.seq (.seq (.ops [mT 112 24,
 bN 113 .leq (.t 112) (cI 60)])
 (.cond (.t 113)
 .skip
 (.exit 0)))
 (.seq (.block 1 (.seq (.ops [lT 117 4 5,
 lT 118 3 11,
 mT 119 4,
 mT 120 24,
 cL 121 29 [(.t 117),(.t 118),(.t 119),(.t 120)],
 mT 116 121,
 o 122 (.ext 0 (.t 116)),
 o 123 (.ext 1 (.t 116)),
 o 25 (.alloc [(.cl []),(.cl []),(.cl []),(.cl []),(.int .i64 0)]),
 sT 5 25 122,
 mT 26 123])
 (.seq (.seq (.ops [mT 124 26,
 bN 125 .eql (.t 124) (cI 5)])
 (.cond (.t 125)
 (.seq (.ops [mT 126 23,
 bN 127 .eql (.t 126) (cI 1),
 mT 128 127,
 gT 129 128 true 5 15,
 gT 130 128 true 5 18,
 gL 131 128 true 15 [(.t 129),(.t 130)],
 pA 132 128 131,
 mT 133 132,
 gL 134 133 true 9 [],
 pA 135 133 134,
 mT 10 135])
 .ret)
 .skip))
 (.seq (.seq (.ops [mT 136 26,
 bN 137 .neq (.t 136) (cI 0),
 mT 138 137,
 gT 139 138 false 5 25,
 gL 140 138 false 18 [(.t 139)],
 og 141 138 false (.un .not (.t 140)),
 pO 142 138 141,
 mT 143 142,
 gT 144 143 false 4 5,
 gT 145 143 false 5 25,
 gL 146 143 false 19 [(.t 144),(.t 145)],
 og 147 143 false (.un .not (.t 146)),
 pO 148 143 147])
 (.cond (.t 148)
 (.seq (.ops [mC 10 (.bool false)])
 .ret)
 .skip))
 (.seq (.ops [mC 27 (.bool false)])
 (.seq (.seq (.ops [mC 28 (.int .i64 0)])
 (.block 2 (.loop (.seq (.seq (.ops [mT 149 28,
 fA 150 1 15,
 l1 151 150,
 lN 152 151,
 bN 153 .lss (.t 149) (.t 152),
 mT 154 153,
 gM 155 154 true 27,
 og 156 154 true (.un .not (.t 155)),
 pA 157 154 156])
 (.cond (.t 157)
 .skip
 (.exit 2)))
 (.seq (.block 3 (.seq (.ops [lT 160 4 5,
 lT 161 5 15,
 mT 162 28,
 cL 163 30 [(.t 160),(.t 161),(.t 162)],
 o 29 (.alloc ([(.cl []),(.cl []),(.cl []),(.cl []),(.int .i64 0),(.int .i64 0),(.int .i64 0),(.int .i64 0),(.int .i64 0),(.int .i64 0),(.int .i64 0)])),
 sT 11 29 163])
 (.seq (.ops [fA 164 5 29,
 l1 165 164,
 bN 166 .neq (.t 165) (cI 2),
 mT 167 166,
 gF 168 167 true 0 29,
 gT 169 167 true 5 168,
 gT 170 167 true 5 25,
 gL 171 167 true 15 [(.t 169),(.t 170)],
 pA 172 167 171])
 (.cond (.t 172)
 (.seq (.ops [mC 27 (.bool true)])
 (.seq (.ops [fA 173 5 29,
 l1 174 173,
 bN 175 .eql (.t 174) (cI 1)])
 (.cond (.t 175)
 (.seq (.ops [mT 176 23,
 bN 177 .add (.t 176) (cI 1),
 mT 23 177])
 (.seq (.draw [fA 178 6 29,
 lT 179 5 178,
 mT 180 12,
 mT 181 4,
 iA 182 5 180 181,
 lT 183 5 182,
 o 184 (.bin .neq (.agg [.num,.num,.num,.num,.num]) (.t 179) (.t 183))]
 [])
 (.cond (.t 184)
 (.seq (.ops [mC 10 (.bool false)])
 .ret)
 .skip)))
 .skip)))
 .skip))))
 (.ops [mT 158 28,
 bN 159 .add (.t 158) (cI 1),
 mT 28 159]))))))
 (.seq (.seq (.ops [mT 185 27,
 nT 186 185])
 (.cond (.t 186)
 (.seq (.ops [mC 10 (.bool false)])
 .ret)
 .skip))
 (.ops [lT 187 5 25,
 sT 5 15 187]))))))))
 (.ops [mT 114 24,
 bN 115 .add (.t 114) (cI 1),
 mT 24 115]))))))
 (.seq (.ops [cL 188 9 [],
 mT 10 188])
 .ret))))))))))))}
theorem L_6 :L 6=some C_6:=by kernel_rfl
set_option maxHeartbeats 8000000 in
theorem aI1 (hk:PC L 9 [] (.bool true))(hpf:p.few)(hwf:w.few)(ks:List Int)(every t:Int):PC L 6 [.agg p.cs,.agg w.cs,.is ks,.i every,.i t] (.bool true):=by
 have hG:=uS hpf hwf ks every
 refine cD L_6 rfl rfl ?_
 cases hgv:aDb p w ks every with
 |false=>
  rw[hgv]at hG;simp only[go_sem,kK,C_6,hG.ret,hk.ret,bTf,kF]
 |true=>
 rw[hgv]at hG;obtain⟨hsp,hg,hks,e1,e2⟩:=yE hgv;rcases tW hpf hwf hsp (ks:=ks) (by omega) hg e1 e2 with⟨hs,hM⟩|⟨hs,m,hm,hend,hM⟩
 ·simp only[tS,bL.cs]at hM;simp only[go_sem,kK,C_6,hG.ret,hM.ret,hk.ret,bS6,bTf,kF]
 have hc:=(qT hg hs).2;have hlf:=hm.few hsp;have hml:=hm.le;have hm2:=hm.m200;have hlen:(oT p (aJ p w 0).1 ks m).length=m:=yD
 by_cases hn:0<=t
 case neg=>simp only[go_sem,kK,C_6,hG.ret,hM.ret,hk.ret,D_t (Int.not_le.1 hn),bS6,kF]
 obtain⟨t,rfl⟩:=bTs hn
 by_cases htm:t<m
 case neg=>simp only[go_sem,kK,C_6,hG.ret,hM.ret,hk.ret,D_f (bUe.2 hn),bSy,hlen,D_t (show m<=t by omega),bS6,kF]
 have hA:=aBd hpf hlf hsp t;rw[hm.atR (bU8 htm)]at hA;have hA1:=aBd hpf hlf hsp ((t+1:Nat):Int);rw[hm.atR htm]at hA1;have hI:=fun(s:Nat) (hs:s<=61)=>aOi hpf hlf hsp t (s:Int) (by omega)
 have hIr: ∀s:Nat,aHs p (cZ p (aJ p w 0).1 ks every m) t s=dW p (cZ p (aJ p w 0).1 ks every m) t s:=fun s=>by
  unfold aHs;rw[if_pos ⟨hm.log,by omega,by rw[hm.len];omega,by omega⟩];rfl
 simp only[hIr]at hI;have hwi:=hm.within hc htm;have h00:=(hm.inside hc htm).1;have hev:=fun en=>bE6 (en:=en) (aY7 (p:=p) (w:=(aJ p w 0).1) (ks:=ks) htm)
 have hgt:=kP (ks:=ks) hm.g t;have hge:=kP (ks:=ks) hm.g (t+1);have hS0:=tI (wAt p (aJ p w 0).1 ks t) (wAt p (aJ p w 0).1 ks t) (fC hsp hgt);have hSe:=tI (wAt p (aJ p w 0).1 ks (t+1)) (wAt p (aJ p w 0).1 ks (t+1)) (fC hsp hge);simp only[decide_true]at hS0 hSe;have hWt:=rI p (wAt p (aJ p w 0).1 ks t) hpf (fC hsp hgt);rw[show cJ p (wAt p (aJ p w 0).1 ks t)=true by simp only[bJ,bSw]at hgt;exact hgt.2]at hWt
 have hI0:=hI 0 (by omega)
 rw[h00]at hI0;have hw1:IntKind.i64.wrap ((t:Int)+1)=((t+1:Nat):Int):=by rw[aV (by omega)];rfl
 rw[show((0:Nat):Int)=0 from rfl]at hI0
 generalize hl:cZ p (aJ p w 0).1 ks every m=l at*;generalize hw0:(aJ p w 0).1=w0 at*;simp only[go_sem,kK,C_6,hG.ret,hM.ret,D_f (bUe.2 hn),bSy,hlen,D_f (show¬m<=t by omega),hA.ret,hw1,hA1.ret,hI0.ret,hS0.ret,hWt.ret,bS6,decide_true,kF]
 have hg':=hg;simp only[bJ,bSw]at hg';have hfo:=kN hg'.1;obtain⟨s,hs1,hs61,hsK,hsE⟩: ∃s,1<=s/\ s<=61/\ (∀n,n<s->(dW p l t n).2=0)/\ (s=61 \/ ¬(dW p l t s).2=0):=by
  by_cases h: ∃n,n<=60/\ ¬(dW p l t n).2=0
  ·obtain⟨n,h1,h2⟩:=h;obtain⟨q,q1,q2,q3⟩:=bIm (P:=fun n=> ¬(dW p l t n).2=0) n h2
   refine⟨q,?_,by omega,fun n hn=>Decidable.not_not.1 (q3 n hn),.inr q2⟩
   rcases Nat.eq_zero_or_pos q with h|h
   ·rw[h,h00]at q2;exact absurd rfl q2
   ·exact h
  ·exact⟨61,by decide,bSx _,fun n hn=>Decidable.byContradiction fun h'=>h ⟨n,by omega,h'⟩,.inl rfl⟩
 refine bK s (fun n st=> ∃fr en cnt,st=⟨fr,en,cnt⟩/\ 1<=n/\ fr 4= .i (t:Int)/\ fr 5= .ptr ⟨0,5,0⟩ 0/\ fr 11= .ptr ⟨0,11,0⟩ 0/\ fr 12= .fz ((oT p w0 ks m).map evV)/\ fr 15= .ptr ⟨0,15,0⟩ 0/\ fr 18= .ptr ⟨0,18,0⟩ 0/\ fr 23= .i (if n=1 then 0 else 1)/\ fr 24= .i (n:Int)/\
  en ⟨0,5,0⟩=some (.box p.cs false)/\ en ⟨0,11,0⟩=some (.box l.cs false)/\ en ⟨0,15,0⟩=some (.box (dW p l t (n-1)).1.cs false)/\ en ⟨0,18,0⟩=some (.box (wAt p w0 ks (t+1)).cs false)) 1 hs1 (by refine⟨_,_,_,rfl,bSx 1,?_,?_,?_,?_,?_,?_,?_,?_,?_,?_,by rw[show(1-1:Nat)=0 from rfl,h00];simp only[go_sem],?_⟩<;>simp only[go_sem]) ?_
 rintro n st hns ⟨fr,en,cnt,rfl,hn1,f4,f5,f11,f12,f15,f18,f23,f24,e5,e11,e15,e18⟩
 obtain⟨j,rfl⟩: ∃j,n=j+1:=⟨n-1,by omega⟩
 rw[Nat.add_sub_cancel]at e15;have hwj:=hwi j (hsK j (by omega))
 by_cases hn60:j+1<=60
 case neg=>
  simp only[go_sem,kK,f24,show¬((j+1:Nat):Int)<=60 by omega,decide_false,hk.ret,kF]
  done
 have hIj:=hI (j+1) (by omega)
 obtain⟨hgx,hwj|⟨hj0,hz,hxe⟩⟩:=hwj
 case inr=>
  rw[hz]at hIj;simp only[tR,aA.cs,Val.is,bTe]at hIj;rw[if_neg (by omega)]at f23
  rw[hxe]at e15;simp only[go_sem,kK,f4,f5,f11,f15,f18,f23,f24,e5,e11,e15,e18,show((j+1:Nat):Int)<=60 by omega,hIj.ret,hSe.ret,hk.ret,decide_true,kF]
  done
 obtain⟨hk0,q,q1,q2,q3,q4,q5⟩:=hwj;have hjs:j+1<s:=by
  rcases bT5 (j+1) s with h|h
  ·exact h
  ·obtain rfl:s=j+1:=by omega
   rcases hsE with h'|h'
   ·omega
   ·exact absurd hk0 h'
 rw[hk0]at hIj;have hgy:=(hwi (j+1) hk0).1;have hYf:=fC hsp hgy;have hSW:=nS (dW p l t (j+1)).1 hYf;rw[tV hsp hgy]at hSW;have hWd:=rI p (dW p l t (j+1)).1 hpf hYf;rw[show cJ p (dW p l t (j+1)).1=true by simp only[bJ,bSw]at hgy;exact hgy.2]at hWd
 generalize hx:(dW p l t j).1=x at*;generalize hy:(dW p l t (j+1)).1=y at*;have hgx':=hgx;simp only[bJ,bSw]at hgx';have hx120:x.tasks.length<=120:=sQ (sX hgx'.2);have hwj:IntKind.i64.wrap (((j+1:Nat):Int)+1)=((j+1+1:Nat):Int):=by rw[aV (by omega)];rfl
 obtain⟨D,hD⟩: ∃D:Int,D=if j+1=1 then 0 else 1:=⟨_,rfl⟩
 rw[<-hD]at f23;simp only[go_sem,kK,f4,f5,f11,f24,e5,e11,show((j+1:Nat):Int)<=60 by omega,hIj.ret,hSW.ret,hWd.ret,bS6,decide_true,kF]
 refine bK (q+1) (fun i st=> ∃fr en cnt,st=⟨fr,en,cnt⟩/\ fr 4= .i (t:Int)/\ fr 5= .ptr ⟨0,5,0⟩ 0/\ fr 11= .ptr ⟨0,11,0⟩ 0/\ fr 12= .fz ((oT p w0 ks m).map evV)/\ fr 15= .ptr ⟨0,15,0⟩ 0/\ fr 18= .ptr ⟨0,18,0⟩ 0/\ fr 23= .i (if i=q+1 then 1 else D)/\ fr 24= .i ((j+1:Nat):Int)/\ fr 27= .bool (decide (i=q+1))/\ fr 28= .i (i:Int)/\
  en ⟨0,5,0⟩=some (.box p.cs false)/\ en ⟨0,11,0⟩=some (.box l.cs false)/\ en ⟨0,15,0⟩=some (.box x.cs false)/\ en ⟨0,18,0⟩=some (.box (wAt p w0 ks (t+1)).cs false)/\ ∃g,fr 25= .ptr ⟨0,25,g⟩ 0/\ en ⟨0,25,g⟩=some (.box y.cs false)) 0 (bS4 _) ⟨_,_,_,rfl,by simp only[go_sem,f4],by simp only[go_sem,f5],by simp only[go_sem,f11],by simp only[go_sem,f12],by simp only[go_sem,f15],by simp only[go_sem,f18],by rw[if_neg (by omega)];simp only[go_sem,f23],by simp only[go_sem,f24],by rw[D_f (by omega)];simp only[go_sem],by simp only[go_sem],by simp only[go_sem,e5],by simp only[go_sem,e11],by simp only[go_sem,e15],by simp only[go_sem,e18],cnt 0 25,by simp only[go_sem],by simp only[go_sem]⟩ ?_
 clear f4 f5 f11 f12 f15 f18 f23 f24 e5 e11 e15 e18;clear fr en cnt
 rintro i st hiq ⟨fr,en,cnt,rfl,f4,f5,f11,f12,f15,f18,f23,f24,f27,f28,e5,e11,e15,e18,g,f25,e25⟩
 by_cases hiq':i=q+1
 case pos=>
  rw[if_pos hiq']at f23;rw[D_t hiq']at f27;rcases Decidable.em (i<x.tasks.length)with hil|hil
  case' inl=>simp only[go_sem,kK,f24,f15,f25,f27,f28,e15,e25,bSy,D_t hil,hwj,bS6,kF]
  case' inr=>simp only[go_sem,kK,f24,f15,f25,f27,f28,e15,e25,bSy,D_f hil,hwj,bS6,kF]
  all_goals
   exact⟨hjs,_,_,_,rfl,by simp only[go_sem,f4],by simp only[go_sem,f5],by simp only[go_sem,f11],by simp only[go_sem,f12],by simp only[go_sem,f15],by simp only[go_sem,f18],by simp only[go_sem,f23],by simp only[go_sem],by simp only[go_sem,e5],by simp only[go_sem,e11],by rw[Nat.add_sub_cancel,hy];simp only[go_sem],by simp only[go_sem,e18]⟩
 have hil:i<x.tasks.length:=by omega
 rw[if_neg hiq']at f23;rw[D_f hiq']at f27;have hSt:=aHb hfo hsp (sX hgx'.2) (a:=(i:Int)) (by simp only[inR,bWo];omega)
 have hgd:=(oI hgx hil).1;have hSm:=tI (aM p x i).w y (fC hsp hgd);have hwi':IntKind.i64.wrap ((i:Int)+1)=((i+1:Nat):Int):=by rw[aV (by omega)];rfl
 rcases Decidable.em (i<q)with hlt|hlt
 ·have hno: ¬i+1=q+1:=by omega
  have h27:decide (i+1=q+1)=false:=D_f hno;rcases Decidable.em ((aM p x i).what=2)with hw2|hw2
  case' inl=>simp only[go_sem,kK,f5,f15,f27,f28,e5,e15,bSy,D_t hil,hSt.ret,hw2,hwi',bS6,bTf,decide_true,kF]
  case' inr=>
   have hwy:decide ((aM p x i).w=y)=false:=D_f ((q4 i hlt).resolve_left hw2);rw[hwy]at hSm;simp only[go_sem,kK,f5,f15,f25,f27,f28,e5,e15,e25,bSy,D_t hil,hSt.ret,D_f hw2,hSm.ret,hwi',bTf,kF]
  all_goals
   exact⟨by omega,_,_,_,rfl,by simp only[go_sem,f4],by simp only[go_sem,f5],by simp only[go_sem,f11],by simp only[go_sem,f12],by simp only[go_sem,f15],by simp only[go_sem,f18],by rw[if_neg (by omega)];simp only[go_sem,f23],by simp only[go_sem,f24],by rw[D_f (by omega)];simp only[go_sem,f27],by simp only[go_sem],by simp only[go_sem,e5],by simp only[go_sem,e11],by simp only[go_sem,e15],by simp only[go_sem,e18],g,by simp only[go_sem,f25],by simp only[go_sem,e25]⟩
 obtain rfl:i=q:=by omega
 rw[D_t q3]at hSm;rcases q5 with⟨rfl,q5,q6⟩|⟨hj0,q5⟩
 case' inl=>
  have hD0:IntKind.i64.wrap (D+1)=1:=by rw[hD];rfl
  simp only[go_sem,kK,f4,f5,f12,f15,f25,f23,f27,f28,e5,e15,e25,bSy,D_t hil,hSt.ret,hSm.ret,hwi',q5,hev,aY6,D_t q6,hD0,bS6,bTf,decide_true,kF]
 case' inr=>
  rw[if_neg (by omega)]at hD
  simp only[go_sem,kK,f5,f15,f25,f27,f28,e5,e15,e25,bSy,D_t hil,hSt.ret,hSm.ret,hwi',q5,hD,bTf,decide_true,kF]
 all_goals
  exact⟨by omega,_,_,_,rfl,by simp only[go_sem,f4],by simp only[go_sem,f5],by simp only[go_sem,f11],by simp only[go_sem,f12],by simp only[go_sem,f15],by simp only[go_sem,f18],by first|(simp only[go_sem,f23,hD];done)|(rw[if_pos rfl];simp only[go_sem,qW,f23,hD]),by simp only[go_sem,f24],by first|(simp only[go_sem];done)|(rw[D_t rfl];simp only[go_sem,qW]),by simp only[go_sem],by simp only[go_sem,e5],by simp only[go_sem,e11],by simp only[go_sem,e15],by simp only[go_sem,e18],g,by simp only[go_sem,f25],by simp only[go_sem,e25]⟩
end Go.Proofs.YtmafmhjndjmalaaGreat

