/- Contracts of functions of the program and of the document: part 2. -/
import Derived.Test.YtmnchlhngpdffaaGreatM1
import Derived.Test.YtmnchlhngpdffaaGreatHxE
set_option linter.all false
open Bool renaming and_eq_true → bOx, and_false → bQc, and_true → bQ2, eq_iff_iff → bRd, false_and → bPm, false_eq_true → bO0, false_or → bPv, not_eq_true → bP6, not_eq_true' → bQb, not_false → bPh, not_not → bRi, not_true → bPd, or_eq_true → bP3, true_and → bPr
open Int renaming eq_ofNat_of_zero_le → bP2, natCast_nonneg → bRg, toNat_natCast → bPz, toNat_of_nonneg → bSa
open List renaming all_eq_true → bO4, any_eq_true → bRy, append_nil → bPx, drop_eq_getElem_cons → bPy, drop_length → bQt, flatMap_cons → bRe, flatMap_nil → bQy, getD_cons_zero → bRt, getD_eq_getElem?_getD → bO2, getElem?_append_left → bR3, getElem?_eq_getElem → bP7, getElem_mem → bO6, length_append → bPg, length_cons → bO7, length_eq_zero_iff → bSc, length_map → bOz, length_nil → bPe, length_set → bQ1, length_singleton → bRz, map_append → bQg, map_cons → bPw, map_nil → bPf, map_set → bQ8, map_take → bQs, mem_cons → bP0, mem_cons_of_mem → bQz, mem_cons_self → bR7, mem_filter → bQi, mem_map → bPt, mem_of_mem_take → bRj, mem_range → bPu, nil_append → bP1, not_all_eq_any_not → bRh, take_length → bQp, take_of_length_le → bPi, take_succ_cons → bO5, take_zero → bO3
open Nat renaming le_of_eq → bQd, le_refl → bOy, le_trans → bPb, lt_of_lt_of_le → bPo, zero_add → bPs, zero_le → bO8
open Option renaming getD_some → bPp, map_eq_some_iff → bPa
open Option.some renaming injEq → bOw
open Prod.mk renaming injEq → bO1
namespace Go.Proofs.YtmnchlhngpdffaaGreat
open Go.Abs Go.Proofs
set_option maxRecDepth 100000
set_option maxHeartbeats 4000000
theorem aDg (l:List Int)(h:Val)(p:Int->Bool)(hc:dV L (fun x:Int=> .i x) h p l)(x:Int)(hx:x∈l):
  PC L 319 [.i x,.fp [h] 0] (.bool (!p x)):=by
 have hL:=at_ Tryz.func319
 conv at hL=>rhs;reduce
 refine aG hL rfl rfl ?_
 simp only[go_sem,kK]
 refine hc.call x hx _ _ ?_
 simp only[go_sem]
theorem zM (l:List Int)(h:Val)(p:Int->Bool)(hl:Few l.length)(hc:dV L (fun x:Int=> .i x) h p l):
  PC L 258 [.fz (l.map (.int .i64)),h] (.bool (l.all p)):=by
 have hd:dV L (fun x:Int=> .i x) (.fn 319 [] [.fp [h] 0]) (fun x=>!p x) l:=by
  refine⟨fun n en hn=>?_,rfl,rfl,rfl,fun x hx en K hK=>?_⟩
  ·obtain⟨m,rfl⟩: ∃m,n=m+4:=⟨n-4,by omega⟩
   simp only[go_sem]
  ·simp only[go_sem,(aDg l h p hc x hx).ret];exact hK
 have hL:=at_ Tryz.func258
 conv at hL=>rhs;reduce
 refine aG hL rfl rfl ?_
 simp only[go_sem,kK,lM hc.one hc.cells,hc.snap,(aSb l _ _ hl hd).ret];rw[<-bRh,bRi]
theorem bA4 (l:List aD)(h:Val)(p:aD->Bool)(hl:Few l.length)(hc:dV L (fun x:aD=> .agg [.i x.kind,.i x.n]) h p l):
  PC L 355 [.fz (l.map aD.enc),h] (.i (idxOf p l 0)):=by
 have hL:=at_ Tryz.func355
 conv at hL=>rhs;reduce
 refine aG hL rfl rfl ?_
 simp only[go_sem,kK]
 refine bQ (l.length) (fun k st=> ∃fr en cnt,st=⟨fr,en,cnt⟩/\ (fr 0= .fz (l.map aD.enc))/\ (fr 1=h)/\ (fr 7= .i l.length)/\ (fr 8= .i k)/\ (idxOf p (l.drop k) k=idxOf p l 0)) 0 (bO8 _) ⟨_,_,_,rfl,(by first|(simp only[go_sem];(try rfl);done)|rfl|simp),(by first|(simp only[go_sem];(try rfl);done)|rfl|simp),(by first|(simp only[go_sem];(try rfl);done)|rfl|simp),(by first|(simp only[go_sem];(try rfl);done)|rfl|simp),(by first|(simp only[go_sem];(try rfl);done)|rfl|simp)⟩ ?_
 rintro k st hk ⟨fr,en,cnt,rfl,h0,h1,h7,h8,hI⟩
 simp only[go_sem,kK,h7,h8]
 refine aH (fun hq=>?_) (fun hq=>?_)
 ·have h':k<l.length:=of_decide_eq_true hq;rw[bPy h',idxOf]at hI;simp only[go_sem,h',h0,h1,h8]
  refine hc.call l[k] (bO6 _) _ _ ?_
  simp only[go_sem,kK]
  refine aH (fun hb=>?_) (fun hb=>?_)
  ·simp only[go_sem,kK];rw[hb,if_pos rfl]at hI;rw[<-hI]
  ·simp only[go_sem,h8];rw[hb]at hI
   simp at hI
   refine⟨_,_,_,rfl,?_⟩
   simp only[go_sem,h0,h1,h7,aT h' hl];exact hI
 ·have:k=l.length:=by simp at hq;omega
  subst this;simp only[go_sem];rw[<-hI];simp[idxOf]
theorem aX1 (l:List aD)(h:Val)(p:aD->Bool)(hl:Few l.length)(hc:dV L (fun x:aD=> .agg [.i x.kind,.i x.n]) h p l):
  PC L 314 [.fz (l.map aD.enc),h] (.bool (l.any p)):=by
 have hL:=at_ Tryz.func314
 conv at hL=>rhs;reduce
 refine aG hL rfl rfl ?_
 simp only[go_sem,kK,hc.snap,hc.wk,(bA4 l h p hl hc).ret];rw[<-nP p l 0]
theorem uI (l:List aD)(h:Val)(p:aD->Bool)(hc:dV L (fun x:aD=> .agg [.i x.kind,.i x.n]) h p l)(x:aD)(hx:x∈l):
  PC L 315 [.agg [.i x.kind,.i x.n],.fp [h] 0] (.bool (!p x)):=by
 have hL:=at_ Tryz.func315
 conv at hL=>rhs;reduce
 refine aG hL rfl rfl ?_
 simp only[go_sem,kK]
 refine hc.call x hx _ _ ?_
 simp only[go_sem]
theorem kY (l:List aD)(h:Val)(p:aD->Bool)(hl:Few l.length)(hc:dV L (fun x:aD=> .agg [.i x.kind,.i x.n]) h p l):
  PC L 254 [.fz (l.map aD.enc),h] (.bool (l.all p)):=by
 have hd:dV L (fun x:aD=> .agg [.i x.kind,.i x.n]) (.fn 315 [] [.fp [h] 0]) (fun x=>!p x) l:=by
  refine⟨fun n en hn=>?_,rfl,rfl,rfl,fun x hx en K hK=>?_⟩
  ·obtain⟨m,rfl⟩: ∃m,n=m+4:=⟨n-4,by omega⟩
   simp only[go_sem]
  ·simp only[go_sem,(uI l h p hc x hx).ret];exact hK
 have hL:=at_ Tryz.func254
 conv at hL=>rhs;reduce
 refine aG hL rfl rfl ?_
 simp only[go_sem,kK,lM hc.one hc.cells,hc.snap,(aX1 l _ _ hl hd).ret];rw[<-bRh,bRi]
theorem aU2 (l:List aB)(h:Val)(p:aB->Bool)(hl:Few l.length)(hc:dV L (fun x:aB=> .agg [.i x.node,.fz (x.env.map aD.enc),.fz (x.vals.map aD.enc)]) h p l):
  PC L 363 [.fz (l.map aB.enc),h] (.i (idxOf p l 0)):=by
 have hL:=at_ Tryz.func363
 conv at hL=>rhs;reduce
 refine aG hL rfl rfl ?_
 simp only[go_sem,kK]
 refine bQ (l.length) (fun k st=> ∃fr en cnt,st=⟨fr,en,cnt⟩/\ (fr 0= .fz (l.map aB.enc))/\ (fr 1=h)/\ (fr 7= .i l.length)/\ (fr 8= .i k)/\ (idxOf p (l.drop k) k=idxOf p l 0)) 0 (bO8 _) ⟨_,_,_,rfl,(by first|(simp only[go_sem];(try rfl);done)|rfl|simp),(by first|(simp only[go_sem];(try rfl);done)|rfl|simp),(by first|(simp only[go_sem];(try rfl);done)|rfl|simp),(by first|(simp only[go_sem];(try rfl);done)|rfl|simp),(by first|(simp only[go_sem];(try rfl);done)|rfl|simp)⟩ ?_
 rintro k st hk ⟨fr,en,cnt,rfl,h0,h1,h7,h8,hI⟩
 simp only[go_sem,kK,h7,h8]
 refine aH (fun hq=>?_) (fun hq=>?_)
 ·have h':k<l.length:=of_decide_eq_true hq;rw[bPy h',idxOf]at hI;simp only[go_sem,h',h0,h1,h8]
  refine hc.call l[k] (bO6 _) _ _ ?_
  simp only[go_sem,kK]
  refine aH (fun hb=>?_) (fun hb=>?_)
  ·simp only[go_sem,kK];rw[hb,if_pos rfl]at hI;rw[<-hI]
  ·simp only[go_sem,h8];rw[hb]at hI
   simp at hI
   refine⟨_,_,_,rfl,?_⟩
   simp only[go_sem,h0,h1,h7,aT h' hl];exact hI
 ·have:k=l.length:=by simp at hq;omega
  subst this;simp only[go_sem];rw[<-hI];simp[idxOf]
theorem aSg (l:List aB)(h:Val)(p:aB->Bool)(hl:Few l.length)(hc:dV L (fun x:aB=> .agg [.i x.node,.fz (x.env.map aD.enc),.fz (x.vals.map aD.enc)]) h p l):
  PC L 356 [.fz (l.map aB.enc),h] (.bool (l.any p)):=by
 have hL:=at_ Tryz.func356
 conv at hL=>rhs;reduce
 refine aG hL rfl rfl ?_
 simp only[go_sem,kK,hc.snap,hc.wk,(aU2 l h p hl hc).ret];rw[<-nP p l 0]
theorem sG (l:List aB)(h:Val)(p:aB->Bool)(hc:dV L (fun x:aB=> .agg [.i x.node,.fz (x.env.map aD.enc),.fz (x.vals.map aD.enc)]) h p l)(x:aB)(hx:x∈l):
  PC L 357 [.agg [.i x.node,.fz (x.env.map aD.enc),.fz (x.vals.map aD.enc)],.fp [h] 0] (.bool (!p x)):=by
 have hL:=at_ Tryz.func357
 conv at hL=>rhs;reduce
 refine aG hL rfl rfl ?_
 simp only[go_sem,kK]
 refine hc.call x hx _ _ ?_
 simp only[go_sem]
theorem nY (l:List aB)(h:Val)(p:aB->Bool)(hl:Few l.length)(hc:dV L (fun x:aB=> .agg [.i x.node,.fz (x.env.map aD.enc),.fz (x.vals.map aD.enc)]) h p l):
  PC L 316 [.fz (l.map aB.enc),h] (.bool (l.all p)):=by
 have hd:dV L (fun x:aB=> .agg [.i x.node,.fz (x.env.map aD.enc),.fz (x.vals.map aD.enc)]) (.fn 357 [] [.fp [h] 0]) (fun x=>!p x) l:=by
  refine⟨fun n en hn=>?_,rfl,rfl,rfl,fun x hx en K hK=>?_⟩
  ·obtain⟨m,rfl⟩: ∃m,n=m+4:=⟨n-4,by omega⟩
   simp only[go_sem]
  ·simp only[go_sem,(sG l h p hc x hx).ret];exact hK
 have hL:=at_ Tryz.func316
 conv at hL=>rhs;reduce
 refine aG hL rfl rfl ?_
 simp only[go_sem,kK,lM hc.one hc.cells,hc.snap,(aSg l _ _ hl hd).ret];rw[<-bRh,bRi]
theorem bA5 (l:List aR)(h:Val)(p:aR->Bool)(hl:Few l.length)(hc:dV L (fun x:aR=> .agg [.i x.form,.i x.n,.fz (x.vals.map aD.enc),.fz (x.frames.map aB.enc)]) h p l):
  PC L 313 [.fz (l.map aR.enc),h] (.i (idxOf p l 0)):=by
 have hL:=at_ Tryz.func313
 conv at hL=>rhs;reduce
 refine aG hL rfl rfl ?_
 simp only[go_sem,kK]
 refine bQ (l.length) (fun k st=> ∃fr en cnt,st=⟨fr,en,cnt⟩/\ (fr 0= .fz (l.map aR.enc))/\ (fr 1=h)/\ (fr 7= .i l.length)/\ (fr 8= .i k)/\ (idxOf p (l.drop k) k=idxOf p l 0)) 0 (bO8 _) ⟨_,_,_,rfl,(by first|(simp only[go_sem];(try rfl);done)|rfl|simp),(by first|(simp only[go_sem];(try rfl);done)|rfl|simp),(by first|(simp only[go_sem];(try rfl);done)|rfl|simp),(by first|(simp only[go_sem];(try rfl);done)|rfl|simp),(by first|(simp only[go_sem];(try rfl);done)|rfl|simp)⟩ ?_
 rintro k st hk ⟨fr,en,cnt,rfl,h0,h1,h7,h8,hI⟩
 simp only[go_sem,kK,h7,h8]
 refine aH (fun hq=>?_) (fun hq=>?_)
 ·have h':k<l.length:=of_decide_eq_true hq;rw[bPy h',idxOf]at hI;simp only[go_sem,h',h0,h1,h8]
  refine hc.call l[k] (bO6 _) _ _ ?_
  simp only[go_sem,kK]
  refine aH (fun hb=>?_) (fun hb=>?_)
  ·simp only[go_sem,kK];rw[hb,if_pos rfl]at hI;rw[<-hI]
  ·simp only[go_sem,h8];rw[hb]at hI
   simp at hI
   refine⟨_,_,_,rfl,?_⟩
   simp only[go_sem,h0,h1,h7,aT h' hl];exact hI
 ·have:k=l.length:=by simp at hq;omega
  subst this;simp only[go_sem];rw[<-hI];simp[idxOf]
theorem aX2 (l:List aR)(h:Val)(p:aR->Bool)(hl:Few l.length)(hc:dV L (fun x:aR=> .agg [.i x.form,.i x.n,.fz (x.vals.map aD.enc),.fz (x.frames.map aB.enc)]) h p l):
  PC L 252 [.fz (l.map aR.enc),h] (.bool (l.any p)):=by
 have hL:=at_ Tryz.func252
 conv at hL=>rhs;reduce
 refine aG hL rfl rfl ?_
 simp only[go_sem,kK,hc.snap,hc.wk,(bA5 l h p hl hc).ret];rw[<-nP p l 0]
theorem uJ (l:List aR)(h:Val)(p:aR->Bool)(hc:dV L (fun x:aR=> .agg [.i x.form,.i x.n,.fz (x.vals.map aD.enc),.fz (x.frames.map aB.enc)]) h p l)(x:aR)(hx:x∈l):
  PC L 253 [.agg [.i x.form,.i x.n,.fz (x.vals.map aD.enc),.fz (x.frames.map aB.enc)],.fp [h] 0] (.bool (!p x)):=by
 have hL:=at_ Tryz.func253
 conv at hL=>rhs;reduce
 refine aG hL rfl rfl ?_
 simp only[go_sem,kK]
 refine hc.call x hx _ _ ?_
 simp only[go_sem]
theorem xH (l:List aR)(h:Val)(p:aR->Bool)(hl:Few l.length)(hc:dV L (fun x:aR=> .agg [.i x.form,.i x.n,.fz (x.vals.map aD.enc),.fz (x.frames.map aB.enc)]) h p l):
  PC L 212 [.fz (l.map aR.enc),h] (.bool (l.all p)):=by
 have hd:dV L (fun x:aR=> .agg [.i x.form,.i x.n,.fz (x.vals.map aD.enc),.fz (x.frames.map aB.enc)]) (.fn 253 [] [.fp [h] 0]) (fun x=>!p x) l:=by
  refine⟨fun n en hn=>?_,rfl,rfl,rfl,fun x hx en K hK=>?_⟩
  ·obtain⟨m,rfl⟩: ∃m,n=m+4:=⟨n-4,by omega⟩
   simp only[go_sem]
  ·simp only[go_sem,(uJ l h p hc x hx).ret];exact hK
 have hL:=at_ Tryz.func212
 conv at hL=>rhs;reduce
 refine aG hL rfl rfl ?_
 simp only[go_sem,kK,lM hc.one hc.cells,hc.snap,(aX2 l _ _ hl hd).ret];rw[<-bRh,bRi]
theorem bA6 (l:List bR)(h:Val)(p:bR->Bool)(hl:Few l.length)(hc:dV L (fun x:bR=> .agg [.i x.port,.i x.n]) h p l):
  PC L 322 [.fz (l.map bR.enc),h] (.i (idxOf p l 0)):=by
 have hL:=at_ Tryz.func322
 conv at hL=>rhs;reduce
 refine aG hL rfl rfl ?_
 simp only[go_sem,kK]
 refine bQ (l.length) (fun k st=> ∃fr en cnt,st=⟨fr,en,cnt⟩/\ (fr 0= .fz (l.map bR.enc))/\ (fr 1=h)/\ (fr 7= .i l.length)/\ (fr 8= .i k)/\ (idxOf p (l.drop k) k=idxOf p l 0)) 0 (bO8 _) ⟨_,_,_,rfl,(by first|(simp only[go_sem];(try rfl);done)|rfl|simp),(by first|(simp only[go_sem];(try rfl);done)|rfl|simp),(by first|(simp only[go_sem];(try rfl);done)|rfl|simp),(by first|(simp only[go_sem];(try rfl);done)|rfl|simp),(by first|(simp only[go_sem];(try rfl);done)|rfl|simp)⟩ ?_
 rintro k st hk ⟨fr,en,cnt,rfl,h0,h1,h7,h8,hI⟩
 simp only[go_sem,kK,h7,h8]
 refine aH (fun hq=>?_) (fun hq=>?_)
 ·have h':k<l.length:=of_decide_eq_true hq;rw[bPy h',idxOf]at hI;simp only[go_sem,h',h0,h1,h8]
  refine hc.call l[k] (bO6 _) _ _ ?_
  simp only[go_sem,kK]
  refine aH (fun hb=>?_) (fun hb=>?_)
  ·simp only[go_sem,kK];rw[hb,if_pos rfl]at hI;rw[<-hI]
  ·simp only[go_sem,h8];rw[hb]at hI
   simp at hI
   refine⟨_,_,_,rfl,?_⟩
   simp only[go_sem,h0,h1,h7,aT h' hl];exact hI
 ·have:k=l.length:=by simp at hq;omega
  subst this;simp only[go_sem];rw[<-hI];simp[idxOf]
theorem aX3 (l:List bR)(h:Val)(p:bR->Bool)(hl:Few l.length)(hc:dV L (fun x:bR=> .agg [.i x.port,.i x.n]) h p l):
  PC L 262 [.fz (l.map bR.enc),h] (.bool (l.any p)):=by
 have hL:=at_ Tryz.func262
 conv at hL=>rhs;reduce
 refine aG hL rfl rfl ?_
 simp only[go_sem,kK,hc.snap,hc.wk,(bA6 l h p hl hc).ret];rw[<-nP p l 0]
theorem uK (l:List bR)(h:Val)(p:bR->Bool)(hc:dV L (fun x:bR=> .agg [.i x.port,.i x.n]) h p l)(x:bR)(hx:x∈l):
  PC L 263 [.agg [.i x.port,.i x.n],.fp [h] 0] (.bool (!p x)):=by
 have hL:=at_ Tryz.func263
 conv at hL=>rhs;reduce
 refine aG hL rfl rfl ?_
 simp only[go_sem,kK]
 refine hc.call x hx _ _ ?_
 simp only[go_sem]
theorem xI (l:List bR)(h:Val)(p:bR->Bool)(hl:Few l.length)(hc:dV L (fun x:bR=> .agg [.i x.port,.i x.n]) h p l):
  PC L 215 [.fz (l.map bR.enc),h] (.bool (l.all p)):=by
 have hd:dV L (fun x:bR=> .agg [.i x.port,.i x.n]) (.fn 263 [] [.fp [h] 0]) (fun x=>!p x) l:=by
  refine⟨fun n en hn=>?_,rfl,rfl,rfl,fun x hx en K hK=>?_⟩
  ·obtain⟨m,rfl⟩: ∃m,n=m+4:=⟨n-4,by omega⟩
   simp only[go_sem]
  ·simp only[go_sem,(uK l h p hc x hx).ret];exact hK
 have hL:=at_ Tryz.func215
 conv at hL=>rhs;reduce
 refine aG hL rfl rfl ?_
 simp only[go_sem,kK,lM hc.one hc.cells,hc.snap,(aX3 l _ _ hl hd).ret];rw[<-bRh,bRi]
theorem jF (n lo hi:Int):PC L 120 [.i n,.i lo,.i hi] (.bool (inR n lo hi)):=by
 have hL:=at_ Tryz.func120
 conv at hL=>rhs;reduce
 refine aG hL rfl rfl ?_
 simp only[go_sem,qW]
 refine bG (fun h=>?_) (fun h=>?_)<;>simp only[go_sem,h]<;>simp at h<;>simp[h,inR]
 omega
theorem fM (n:Int):PC L 217 [.i n] (.bool (inR n (-1000000000) 1000000000)):=by
 have hL:=at_ Tryz.func217
 conv at hL=>rhs;reduce
 refine aG hL rfl rfl ?_
 simp only[go_sem,kK,(jF _ _ _).ret]
theorem sQ (n:aJ):PC L 222 [.agg [.i n.op,.i n.n,.fz (n.kids.map (.int .i64)),.fz (n.pats.map Pat.enc)]] (.i n.asks):=by
 have hL:=at_ Tryz.func222
 conv at hL=>rhs;reduce
 refine aG hL rfl rfl ?_
 simp only[go_sem,kK]
 repeat' ((first|with_reducible refine aH (fun h=>?_) (fun h=>?_)|with_reducible refine aL (fun h=>?_) (fun h=>?_))<;>(try simp only[bSi,bSj]at h)<;>try simp only[go_sem,kK,h])
 all_goals simp[aJ.asks, *]
theorem aAx (p:aF)(w:aA)(v:aD)(hp:p.few)(hw:w.few):PC L 255 [.fp [.fz (p.nodes.map aJ.enc),.fz (p.funs.map (.int .i64)),.i p.main,.fz (p.cons.map cO.enc),.fz (w.objs.map aR.enc),.fz (w.tasks.map (.int .i64)),.fz (w.outs.map bR.enc),.fz (w.ins.map (.int .i64)),.i w.used] 0,.agg [.i v.kind,.i v.n]] (.bool (dJ p w v)):=by
 have hL:=at_ Tryz.func255
 conv at hL=>rhs;reduce
 refine aG hL rfl rfl ?_
 simp only[go_sem,kK]
 repeat' ((first|with_reducible refine aH (fun h=>?_) (fun h=>?_)|with_reducible refine aL (fun h=>?_) (fun h=>?_))<;>(try simp only[bSi,bSj]at h)<;>try simp only[go_sem,kK,h,(jF _ _ _).ret,(fM _).ret,dX hp.funs,dX hw.objs])
 all_goals simp[dJ, *]
theorem aGm (p:aF)(w:aA)(hp:p.few)(hw:w.few)(l:List aD):dV L (fun x:aD=> .agg [.i x.kind,.i x.n]) (.fn 255 [.fp [.fz (p.nodes.map aJ.enc),.fz (p.funs.map (.int .i64)),.i p.main,.fz (p.cons.map cO.enc),.fz (w.objs.map aR.enc),.fz (w.tasks.map (.int .i64)),.fz (w.outs.map bR.enc),.fz (w.ins.map (.int .i64)),.i w.used] 0] []) (dJ p w) l:=by
 refine⟨fun n en hn=>?_,rfl,rfl,rfl,fun x hx en K hK=>?_⟩
 ·obtain⟨m,rfl⟩: ∃m,n=m+4:=⟨n-4,by omega⟩
  simp only[go_sem]
 ·simp only[go_sem,(aAx p w x hp hw).ret];exact hK
theorem aKn (l:List Int)(hl:Few l.length):PC L 218 [.is l] (.bool (nA l 50)):=by
 have ask:dV L (fun x:Int=> .i x) (.fn 217 [] []) (fun n=>inR n (-1000000000) 1000000000) l:=by
  refine⟨fun n en hn=>?_,rfl,rfl,rfl,fun x hx en K hK=>?_⟩
  ·obtain⟨m,rfl⟩: ∃m,n=m+4:=⟨n-4,by omega⟩
   simp only[go_sem]
  ·simp only[go_sem,(fM x).ret];exact hK
 have hL:=at_ Tryz.func218
 conv at hL=>rhs;reduce
 refine aG hL rfl rfl ?_
 simp only[go_sem,kK]
 refine aL (fun h=>?_) (fun h=>?_)
 ·simp only[go_sem,kK,h,(zM l _ _ hl ask).ret]
  simp at h;simp[nA,h]
 ·simp only[go_sem,kK,h]
  simp at h;simp[nA];intros;omega
theorem xJ (o:bR):PC L 216 [.agg [.i o.port,.i o.n]] (.bool (vN o)):=by
 have hL:=at_ Tryz.func216
 conv at hL=>rhs;reduce
 refine aG hL rfl rfl ?_
 simp only[go_sem,kK,(jF _ _ _).ret]
 refine aL (fun h=>?_) (fun h=>?_)<;>simp only[go_sem,kK,h,(fM _).ret]<;>simp[vN,h]
theorem aAy (p:aF)(w:aA)(f:aB)(hp:p.few)(hw:w.few)(hf:f.few):PC L 317 [.fp [.fz (p.nodes.map aJ.enc),.fz (p.funs.map (.int .i64)),.i p.main,.fz (p.cons.map cO.enc),.fz (w.objs.map aR.enc),.fz (w.tasks.map (.int .i64)),.fz (w.outs.map bR.enc),.fz (w.ins.map (.int .i64)),.i w.used] 0,.agg [.i f.node,.fz (f.env.map aD.enc),.fz (f.vals.map aD.enc)]] (.bool (dH p w f)):=by
 have hL:=at_ Tryz.func317
 conv at hL=>rhs;reduce
 refine aG hL rfl rfl ?_
 simp only[go_sem,kK];have e:=dX hp.nodes
 try(refine aAl ?_ ?_;· decide)
 simp only[go_sem,kK,e,(jF _ _ _).ret]
 refine aL (fun h=>?_) (fun h=>?_)
 ·simp only[go_sem,kK,h]
  refine aL (fun h2=>?_) (fun h2=>?_)
  ·simp only[go_sem,kK,h,h2,bK,(sQ _).ret]
   refine aL (fun h3=>?_) (fun h3=>?_)
   ·simp only[go_sem,kK,h3,(kY _ _ _ hf.1 (aGm p w hp hw _)).ret]
    refine aL (fun h4=>?_) (fun h4=>?_)
    ·simp only[go_sem,kK,h4,(kY _ _ _ hf.2 (aGm p w hp hw _)).ret]
     simp at h2 h3 h4
     simp[dH,bE,h,h2,h3];intros;simp_all
    ·simp only[go_sem,kK,h4]
     simp at h2 h3 h4
     obtain⟨x,hx,hx2⟩:=h4;simp[dH,bE,h,h2,h3];intro hh;rw[hh x hx]at hx2;cases hx2
   ·simp only[go_sem,kK,h3]
    simp at h2 h3
    simp[dH,bE,h,h2];intros;omega
  ·simp only[go_sem,kK,h2]
   simp at h2
   simp[dH,bE,h];intros;omega
 ·simp only[go_sem,kK,h]
  simp at h
  simp[dH,h]
theorem aCf (p:aF)(w:aA)(f:aB)(hn:inR f.node 0 (p.nodes.length-1)=true):PC L 318 [.fp [.fz (p.nodes.map aJ.enc),.fz (p.funs.map (.int .i64)),.i p.main,.fz (p.cons.map cO.enc),.fz (w.objs.map aR.enc),.fz (w.tasks.map (.int .i64)),.fz (w.outs.map bR.enc),.fz (w.ins.map (.int .i64)),.i w.used] 0,.agg [.i f.node,.fz (f.env.map aD.enc),.fz (f.vals.map aD.enc)]] (.bool (fE p f)):=by
 have hL:=at_ Tryz.func318
 conv at hL=>rhs;reduce
 refine aG hL rfl rfl ?_
 simp only[go_sem,kK]
 refine aAl ?_ ?_
 ·decide
 simp only[go_sem,hn,bK,(sQ _).ret];simp[fE]
theorem qT (p:aF)(w:aA)(l:List aB)(m:Nat)(hp:p.few)(hw:w.few)(hl:Few l.length)(hf: ∀f∈l,f.few)(hm:m<=1):
  PC L 256 [.fp [.fz (p.nodes.map aJ.enc),.fz (p.funs.map (.int .i64)),.i p.main,.fz (p.cons.map cO.enc),.fz (w.objs.map aR.enc),.fz (w.tasks.map (.int .i64)),.fz (w.outs.map bR.enc),.fz (w.ins.map (.int .i64)),.i w.used] 0,.fz (l.map aB.enc),.i m] (.bool (bV p w l&&(l.take (l.length-m)).all (fE p))):=by
 have ask1:dV L (fun x:aB=> .agg [.i x.node,.fz (x.env.map aD.enc),.fz (x.vals.map aD.enc)]) (.fn 317 [.fp [.fz (p.nodes.map aJ.enc),.fz (p.funs.map (.int .i64)),.i p.main,.fz (p.cons.map cO.enc),.fz (w.objs.map aR.enc),.fz (w.tasks.map (.int .i64)),.fz (w.outs.map bR.enc),.fz (w.ins.map (.int .i64)),.i w.used] 0] []) (dH p w) l:=by
  refine⟨fun n en hn=>?_,rfl,rfl,rfl,fun x hx en K hK=>?_⟩
  ·obtain⟨m,rfl⟩: ∃m,n=m+4:=⟨n-4,by omega⟩
   simp only[go_sem]
  ·simp only[go_sem,(aAy p w x hp hw (hf x hx)).ret];exact hK
 have hL:=at_ Tryz.func256
 conv at hL=>rhs;reduce
 refine aG hL rfl rfl ?_
 simp only[go_sem,kK]
 refine aL (fun h=>?_) (fun h=>?_)
 ·simp only[go_sem,kK,h,(nY _ _ _ hl ask1).ret]
  refine aL (fun h2=>?_) (fun h2=>?_)
  ·have hok:bV p w l=true:=by simp at h h2;simp[bV,h];exact h2
   have ask2:dV L (fun x:aB=> .agg [.i x.node,.fz (x.env.map aD.enc),.fz (x.vals.map aD.enc)]) (.fn 318 [.fp [.fz (p.nodes.map aJ.enc),.fz (p.funs.map (.int .i64)),.i p.main,.fz (p.cons.map cO.enc),.fz (w.objs.map aR.enc),.fz (w.tasks.map (.int .i64)),.fz (w.outs.map bR.enc),.fz (w.ins.map (.int .i64)),.i w.used] 0] []) (fE p) (l.take (l.length-m)):=by
    refine⟨fun n en hn=>?_,rfl,rfl,rfl,fun x hx en K hK=>?_⟩
    ·obtain⟨m,rfl⟩: ∃m,n=m+4:=⟨n-4,by omega⟩
     simp only[go_sem]
    ·simp only[go_sem,(aCf p w x (oI hok x (bRj hx))).ret];exact hK
   have k1:=aEr hok;have e1:IntKind.i64.wrap ((l.length:Int)-m)=(l.length:Int)-m:=aW (by omega)
   have e2:max (0:Int) ((l.length:Int)-m)=((l.length-m:Nat):Int):=by omega
   simp only[go_sem,kK,h2,e1,e2,uB,Nat.sub_le,<-bQs,(nY _ _ _ (aJ7 hl _) ask2).ret];simp[hok]
  ·simp only[go_sem,kK,h2];have:bV p w l=false:=by
    rw[<-bP6];intro hh;simp only[bV,bOx]at hh;rw[hh.2]at h2;simp at h2
   simp[this]
 ·simp only[go_sem,kK,h];have:bV p w l=false:=by simp at h;simp[bV];intros;omega
  simp[this]
def aNf (p:aF)(w:aA)(o:aR):Bool:=
 if o.n=0 then(if(1:Int)<o.vals.length \/((o.frames.length:Int)=0/\ (o.vals.length:Int)=0)then false else bV p w o.frames&&(o.frames.take (o.frames.length-(1-o.vals.length))).all (fE p))
 else if o.n=1 then decide ((o.vals.length:Int)=1)&&decide ((o.frames.length:Int)=0)
 else if o.n=2 \/o.n=3 \/o.n=4 then decide ((o.vals.length:Int)=0)&&decide ((o.frames.length:Int)=0)else false
theorem aCg (p:aF)(w:aA)(o:aR)(hp:p.few)(hw:w.few)(ho:o.few):PC L 257 [.fp [.fz (p.nodes.map aJ.enc),.fz (p.funs.map (.int .i64)),.i p.main,.fz (p.cons.map cO.enc),.fz (w.objs.map aR.enc),.fz (w.tasks.map (.int .i64)),.fz (w.outs.map bR.enc),.fz (w.ins.map (.int .i64)),.i w.used] 0,.agg [.i o.form,.i o.n,.fz (o.vals.map aD.enc),.fz (o.frames.map aB.enc)]] (.bool (aNf p w o)):=by
 have hL:=at_ Tryz.func257
 conv at hL=>rhs;reduce
 refine aG hL rfl rfl ?_
 simp only[go_sem,kK]
 refine aH (fun h0=>?_) (fun h0=>?_)<;>simp only[bSi,bSj]at h0
 ·simp only[go_sem,kK]
  repeat' ((first|with_reducible refine aH (fun h=>?_) (fun h=>?_)|with_reducible refine aL (fun h=>?_) (fun h=>?_))<;>(try simp only[bSi,bSj,bPd,bPh]at h)<;>try simp only[go_sem,kK, *])
  all_goals try(simp[aNf, *];done)
  all_goals
   have hv:o.vals.length<=1:=by omega
   have e:IntKind.i64.wrap (1-(o.vals.length:Int))=((1-o.vals.length:Nat):Int):=by rw[aW (by omega)];omega
   simp only[go_sem,e,(qT p w o.frames (1-o.vals.length) hp hw ho.2.1 ho.2.2 (by omega)).ret]
   rw[aNf,if_pos h0,if_neg (by omega)]
 ·simp only[go_sem,kK]
  repeat' ((first|with_reducible refine aH (fun h=>?_) (fun h=>?_)|with_reducible refine aL (fun h=>?_) (fun h=>?_))<;>(try simp only[bSi,bSj,bPd]at h)<;>try simp only[go_sem,kK,h])
  all_goals simp[aNf, *]
  all_goals (intros;simp_all)
def aKo (p:aF)(w:aA)(o:aR):Bool:=
 if o.form=1 then decide ((o.frames.length:Int)=0)&&inR o.n 0 (p.cons.length-1)&&decide ((o.vals.length:Int)=(p.cons.getD o.n.toNat default).args)
 else if o.form=2 then decide ((o.frames.length:Int)=0)&&inR o.n 0 (p.nodes.length-1)&&decide ((p.node o.n).op=5)&&decide ((o.vals.length:Int)<=30)
 else if o.form=3 then decide ((o.frames.length:Int)=0)&&decide (o.n=0)&&decide ((o.vals.length:Int)=1)
 else if o.form=4 then decide ((o.frames.length:Int)=0)&&decide (o.n=0)&&decide ((o.vals.length:Int)<=4)
 else if o.form=5 then decide (o.n=0)&&decide ((o.vals.length:Int)=0)&&decide ((0:Int)<o.frames.length)&&(bV p w o.frames&&o.frames.all (fE p))&&decide ((p.node (o.frames.headD default).node).op=26)
 else if o.form=6 then aNf p w o else false
def aSh (p:aF)(w:aA)(o:aR):Bool:=o.vals.all (dJ p w)&&aKo p w o
theorem bA7 (p:aF)(w:aA)(o:aR)(hc: ∀c∈p.cons,c.args<=3):aSh p w o=dK p w o:=by
 have hargs:inR o.n 0 (p.cons.length-1)=true->(p.cons.getD o.n.toNat default).args<=3:=by
  intro h;simp only[inR,bSi]at h;have:o.n.toNat<p.cons.length:=by omega
  rw[bO2,bP7 this];exact hc _ (bO6 _)
 have vok: ∀m:Int,(o.vals.length:Int)<=m->bE p w o.vals m=o.vals.all (dJ p w):=by intro m h;simp[bE,h]
 have vno: ∀m:Int,m<(o.vals.length:Int)->bE p w o.vals m=false:=by intro m h;simp[bE];intros;omega
 generalize hV:o.vals.all (dJ p w)=V at vok;have nilV:o.vals.length=0->V=true:=by intro h;rw[<-hV,bSc.1 h];rfl
 simp only[aSh,dK,hV]
 by_cases h6:o.form=6
 ·simp only[h6,if_true,aKo,jN,aNf];simp only[show¬(6:Int)=1 by decide,show¬(6:Int)=2 by decide,show¬(6:Int)=3 by decide,show¬(6:Int)=4 by decide,show¬(6:Int)=5 by decide,if_false]
  by_cases h0:o.n=0
  ·simp only[h0,if_true]
   by_cases h1:(1:Int)<o.vals.length
   ·simp[h1,vno 1 h1]
   ·rw[vok 1 (by omega)]
    by_cases h2:(o.frames.length:Int)=0/\ (o.vals.length:Int)=0
    ·simp only[h2];simp[]
    ·rw[if_neg (by omega)]
     have:(0:Int)<o.frames.length+o.vals.length:=by omega
     have e:o.frames.length-(1-o.vals.length)=o.frames.length+o.vals.length-1:=by omega
     simp only[this,decide_true,e];cases V<;>cases bV p w o.frames<;>simp
  ·simp only[h0,if_false]
   by_cases h1:o.n=1
   ·simp only[h1,if_true]
    by_cases hl:(o.vals.length:Int)=1
    ·rw[vok 1 (by omega)];simp only[hl,decide_true,bPr,bQ2];cases V<;>simp
    ·simp only[hl,decide_false,bQc,bPm]
   ·simp only[h1,if_false];split
    ·by_cases hl:(o.vals.length:Int)=0
     ·have:=nilV (by omega);simp only[this,hl,decide_true,bPr,bQ2]
     ·simp only[hl,decide_false,bQc,bPm]
    ·simp
 ·simp only[h6,if_false,aKo]
  by_cases h5:o.form=5
  ·simp only[h5,if_true];simp only[show¬(5:Int)=1 by decide,show¬(5:Int)=2 by decide,show¬(5:Int)=3 by decide,show¬(5:Int)=4 by decide,if_false]
   by_cases hl:(o.vals.length:Int)=0
   ·have:=nilV (by omega)
    simp only[this,bPr,Bool.and_assoc]
   ·simp only[hl,decide_false,bQc,bPm]
  ·simp only[h5,if_false]
   by_cases hf:(o.frames.length:Int)=0
   ·simp only[hf,not_true,if_false,decide_true,bPr]
    by_cases h1:o.form=1
    ·simp only[h1,if_true];cases hin:inR o.n 0 (p.cons.length-1)with
     |false=>simp
     |true=>
      have ha:=hargs hin
      by_cases hl:(o.vals.length:Int)=(p.cons.getD o.n.toNat default).args
      ·rw[vok 3 (by omega)];simp only[hl,decide_true,bPr,bQ2]
      ·simp only[hl,decide_false,bQc,bPm]
    ·simp only[h1,if_false]
     by_cases h2:o.form=2
     ·simp only[h2,if_true]
      by_cases hl:(o.vals.length:Int)<=30
      ·rw[vok 30 hl];simp only[hl,decide_true,bQ2];ac_rfl
      ·rw[vno 30 (by omega)];simp only[hl,decide_false,bQc]
     ·simp only[h2,if_false]
      by_cases h3:o.form=3
      ·simp only[h3,if_true]
       by_cases hl:(o.vals.length:Int)=1
       ·rw[vok 1 (by omega)];simp only[hl,decide_true,bQ2];ac_rfl
       ·simp only[hl,decide_false,bQc,bPm]
      ·simp only[h3,if_false]
       by_cases h4:o.form=4
       ·simp only[h4,if_true]
        by_cases hl:(o.vals.length:Int)<=4
        ·rw[vok 4 hl];simp only[hl,decide_true,bQ2];ac_rfl
        ·rw[vno 4 (by omega)];simp only[hl,decide_false,bQc]
       ·simp only[h4,if_false,bQc]
   ·simp only[hf,not_false_eq_true,if_true,decide_false,bPm]
    repeat' split
    all_goals simp
theorem zQ (p:aF)(w:aA)(o:aR)(hp:p.few)(hw:w.few)(ho:o.few):PC L 213 [.fp [.fz (p.nodes.map aJ.enc),.fz (p.funs.map (.int .i64)),.i p.main,.fz (p.cons.map cO.enc),.fz (w.objs.map aR.enc),.fz (w.tasks.map (.int .i64)),.fz (w.outs.map bR.enc),.fz (w.ins.map (.int .i64)),.i w.used] 0,.agg [.i o.form,.i o.n,.fz (o.vals.map aD.enc),.fz (o.frames.map aB.enc)]] (.bool (aSh p w o)):=by
 have hL:=at_ Tryz.func213
 conv at hL=>rhs;reduce
 refine aG hL rfl rfl ?_
 simp only[go_sem,kK,(kY _ _ _ ho.1 (aGm p w hp hw _)).ret]
 refine aH (fun hv=>?_) (fun hv=>?_)
 ·have hv':o.vals.all (dJ p w)=false:=by rw[<-bQb];exact hv
  simp only[go_sem,kK];rw[aSh,hv'];rfl
 ·have hv':o.vals.all (dJ p w)=true:=by simpa using hv
  rw[aSh,hv',bPr];clear hv hv';simp only[go_sem,kK];have hfr:=qT p w o.frames 0 hp hw ho.2.1 ho.2.2 (by omega)
  simp only[Nat.sub_zero,bQp,Int.natCast_zero]at hfr
  repeat' ((first|with_reducible refine aH (fun h=>?_) (fun h=>?_)|with_reducible refine aL (fun h=>?_) (fun h=>?_))<;>(try simp only[bSi,bSj,bPd]at h)<;>try simp only[go_sem,kK, *,(jF _ _ _).ret,dX hp.nodes,dX hp.cons,bK,aGh,hfr.ret])
  all_goals try(simp[aKo, *];done)
  all_goals try(simp[aKo, *];intros;simp_all;done)
  ·rename_i g1 g2 g3 g4 g5 g6 g7 g8;have hpos:0<o.frames.length:=by omega
   have h2:=h;simp only[bOx]at h2;have hn:inR (o.frames.headD default).node 0 (p.nodes.length-1)=true:=oI h2.1 _ (by cases hh:o.frames with|nil=>simp[hh]at hpos|cons a l=>simp)
   simp only[go_sem,kK,aNb hpos,hn,bK];simp only[aKo,g5,g6,g7,h];simp[*]
  ·rename_i g1 g2 g3 g4 g5;have ht:=aCg p w o hp hw ho;rw[h]at ht;simp only[go_sem,ht.ret];simp only[aKo,h,if_true];simp
theorem aIb (n:Nat):PC L 260 [.i n] (.fn 321 [] [.fp [.i n] 0]):=by
 have hL:=at_ Tryz.func260
 conv at hL=>rhs;reduce
 refine aG hL rfl rfl ?_
 simp only[go_sem,kK]
theorem aU3 (n:Nat)(hn:n<=1000):PC L 259 [.fn 321 [] [.fp [.i n] 0]] (.fz ((List.range n).map fun(i:Nat)=> .i i)):=by
 have hf:Few n:=by unfold Few;omega
 have hL:=at_ Tryz.func259
 conv at hL=>rhs;reduce
 refine aG hL rfl rfl ?_
 simp only[go_sem,kK];have hL:=at_ Tryz.func320
 conv at hL=>rhs;reduce
 refine bD hL rfl rfl ?_
 simp only[go_sem,kK,lM (v:= .cl []) rfl rfl]
 refine uC (f:=321) (x:=[]) (y:=[.fp [.i n] 0]) ?_ ?_
 ·simp only[go_sem]
 intro fr0 key hfr0 hkey;have h2:fr0 2= .ptr ⟨0,2,0⟩ 0:=by rw[hfr0];simp only[go_sem]
 have hk1:key=⟨1,0,0⟩:=by rw[hkey];rfl
 subst hk1;clear hkey hfr0;have hL:=at_ Tryz.func321
 conv at hL=>rhs;reduce
 refine bD hL rfl rfl ?_
 simp only[go_sem,kK]
 refine bQ n (fun k st=> ∃fr en cnt v,st=⟨fr,en,cnt⟩/\ fr 0= .yld ⟨1,0,0⟩/\ fr 4= .i n/\ fr 5= .i k/\ en ⟨1,0,0⟩=some (.loop fr0 [7] (.ops [o 5 (.mv (.t 7))]) (.block 1 (.ops [o 8 (.load false 1 (.t 2)),o 9 (.mv (.t 5)),o 10 (.bslice 1 1 [(.i 0)] [(0,(.t 9))]),o 11 (.append 1 (.t 8) (.t 10)),on (.store 1 (.t 2) (.t 11))])) .ready)/\ en ⟨0,2,0⟩=some (.box [v] false)/\ jK en v 1 ((List.range k).map fun(i:Nat)=> .i i) [11]) 0 (bO8 _) ⟨_,_,_,.cl [],rfl,by simp only[go_sem],by simp only[go_sem],by simp only[go_sem],by simp only[go_sem],by simp only[go_sem],jK.nil _ _⟩ ?_
 rintro k st hk ⟨fr,en,cnt,v,rfl,h0,h4,h5,e1,e2,hm⟩
 simp only[go_sem,kK,h4,h5]
 refine aH (fun hq=>?_) (fun hq=>?_)
 ·have h':k<n:=of_decide_eq_true hq;simp only[go_sem,h',h0,h5]
  refine aIm (fr:=fr0) (ps:=[7]) (a:=(.ops [o 5 (.mv (.t 7))])) (b:=(.block 1 (.ops [o 8 (.load false 1 (.t 2)),o 9 (.mv (.t 5)),o 10 (.bslice 1 1 [(.i 0)] [(0,(.t 9))]),o 11 (.append 1 (.t 8) (.t 10)),on (.store 1 (.t 2) (.t 11))]))) e1 rfl ?_
  simp only[go_sem,kK,h2,e1,e2]
  refine aAm (D:=[11]) (xs:=(List.range k).map fun(i:Nat)=>Val.int .i64 i) (ys:=[.i k]) (rs:=[]) ?_ ?_ ?_ ?_ ?_
  ·simp only[go_sem];exact hm.keep fun t g ht=>by simp at ht;subst ht;simp only[go_sem]
  ·simp only[go_sem]
  ·rfl
  ·simp;omega
  ·intro v' en' cnt' hown hen hcnt;obtain⟨s1,s2⟩:=hown.shape;have k1:en' ⟨1,0,0⟩=some (.loop fr0 [7] (.ops [o 5 (.mv (.t 7))]) (.block 1 (.ops [o 8 (.load false 1 (.t 2)),o 9 (.mv (.t 5)),o 10 (.bslice 1 1 [(.i 0)] [(0,(.t 9))]),o 11 (.append 1 (.t 8) (.t 10)),on (.store 1 (.t 2) (.t 11))])) .busy):=by rw[hen 1 0 0 (.inl (by decide))];simp only[go_sem]
   have k2:en' ⟨0,2,0⟩=some (.box [v] false):=by rw[hen 0 2 0 (.inr ⟨by decide,by simp⟩)];simp only[go_sem,e2]
   simp only[go_sem,h2,s1,s2,k1,k2];simp only[go_sem,h5]
   refine⟨_,_,_,v',rfl,?_⟩
   simp only[go_sem,h0,h4,aT h' hf]
   refine jK.sub (D:=[11,11]) (jK.keep (en:=en') ?_ ?_) (by simp)
   ·rw[bQg];exact hown
   ·intro t g ht;simp at ht;subst ht;simp only[go_sem]
 ·have:k=n:=by simp at hq;omega
  subst this;simp only[go_sem,e1];obtain⟨r,ks,s1,s2,_⟩:=aSe (hm.keep (en':=en.set ⟨1,0,0⟩ none) fun t g ht=>by simp at ht;subst ht;simp only[go_sem])
  simp only[go_sem,e2,s1,s2]
theorem aAz (n:Int): ∀ks:List Int,(∃i,findKey .num (.i n) (ks.map (.int .i64))=some (some i)/\ (ks.any fun x=>decide (x=n))=true/\ (ks.map (Val.int .i64)).set i (.i n)=ks.map (.int .i64)/\ i<ks.length) \/
  (findKey .num (.i n) (ks.map (.int .i64))=some none/\ (ks.any fun x=>decide (x=n))=false)
 |[]=> .inr ⟨rfl,rfl⟩
 |x::ks=>by
  have he:pP .num (.i n) (.i x)=some (n==x):=by simp[pP]
  by_cases h:n=x
  ·subst h
   refine .inl ⟨0,?_,by simp,by simp,by simp⟩
   simp only[bPw,findKey,he,beq_self_eq_true]
  ·have hb:(n==x)=false:=by simpa using h
   have hx:decide (x=n)=false:=by simp;exact fun e=>h e.symm
   rcases aAz n ks with⟨i,h1,h2,h3,h4⟩|⟨h1,h2⟩
   ·refine .inl ⟨i+1,?_,?_,by simp[h3],by simp;exact h4⟩
    ·simp only[bPw,findKey,he,hb,h1]
    ·simp only[List.any_cons,hx,bPv];exact h2
   ·refine .inr ⟨?_,?_⟩
    ·simp only[bPw,findKey,he,hb,h1]
    ·simp only[List.any_cons,hx,bPv];exact h2
theorem aNg (n:Int)(ks:List Int):aDa .num (.bool false) false (.i n) (ks.map (.int .i64)) (ks.map fun _=> .bool true)=some (.bool (ks.any fun x=>decide (x=n))):=by
 unfold aDa;rcases aAz n ks with⟨i,h1,h2,_,h4⟩|⟨h1,h2⟩
 ·simp[h1,h2,bO2,h4]
 ·simp[h1,h2]
def aIn (w:aA)(ks:List Int):Bool:=(List.range w.objs.length).all fun i=>(ks.any fun x=>decide (x=(i:Int)))||!cW (w.obj i)
def aA0 (w:aA):Bool:=bP w [] w.tasks&&aIn w w.tasks
theorem xK (p:aF)(w:aA)(ks:List Int)(i:Nat)(hi:i<w.objs.length):
  PC L 261 [.i i,.fp [.fm (ks.map (.int .i64)) (ks.map fun _=> .bool true)] 0,.fp [.fp [.fz (p.nodes.map aJ.enc),.fz (p.funs.map (.int .i64)),.i p.main,.fz (p.cons.map cO.enc),.fz (w.objs.map aR.enc),.fz (w.tasks.map (.int .i64)),.fz (w.outs.map bR.enc),.fz (w.ins.map (.int .i64)),.i w.used] 0] 0] (.bool ((ks.any fun x=>decide (x=(i:Int)))||!cW (w.obj i))):=by
 have hin:inR (i:Int) 0 (w.objs.length-1)=true:=by simp[inR];omega
 have hL:=at_ Tryz.func261
 conv at hL=>rhs;reduce
 refine aG hL rfl rfl ?_
 simp only[go_sem,kK,aNg]
 refine aL (fun h=>?_) (fun h=>?_)
 ·simp only[go_sem,kK,h,yJ,hin];simp[cW]
 ·simp only[go_sem,kK,h,bPh];simp
variable {k:Key}
theorem bA8 :Val.one (.mp k)=true:=(rfl)
theorem aSi :Val.cells (.mp k)=[.mp k]:=(rfl)
variable {en:En}{n:Nat}
theorem bFh :snapD (n+1) en (.mp k)=(match en k with
   |some (.map ks vs _)=>some (.fm ks vs,[k])
   |_=>none):=(rfl)
theorem aA1 (p:aF)(w:aA)(hw:w.few)(hn:w.objs.length<=1000):PC L 214 [.fp [.fz (p.nodes.map aJ.enc),.fz (p.funs.map (.int .i64)),.i p.main,.fz (p.cons.map cO.enc),.fz (w.objs.map aR.enc),.fz (w.tasks.map (.int .i64)),.fz (w.outs.map bR.enc),.fz (w.ins.map (.int .i64)),.i w.used] 0] (.bool (aA0 w)):=by
 have e:=dX hw.objs;have hL:=at_ Tryz.func214
 conv at hL=>rhs;reduce
 refine aG hL rfl rfl ?_
 simp only[go_sem,kK,lM (v:= .fp [.fz (p.nodes.map aJ.enc),.fz (p.funs.map (.int .i64)),.i p.main,.fz (p.cons.map cO.enc),.fz (w.objs.map aR.enc),.fz (w.tasks.map (.int .i64)),.fz (w.outs.map bR.enc),.fz (w.ins.map (.int .i64)),.i w.used] 0) rfl rfl,bA8,aSi]
 refine bQ w.tasks.length (fun k st=> ∃fr en cnt,st=⟨fr,en,cnt⟩/\ fr 1= .ptr ⟨0,1,0⟩ 0/\ en ⟨0,1,0⟩=some (.box [.fp [.fz (p.nodes.map aJ.enc),.fz (p.funs.map (.int .i64)),.i p.main,.fz (p.cons.map cO.enc),.fz (w.objs.map aR.enc),.fz (w.tasks.map (.int .i64)),.fz (w.outs.map bR.enc),.fz (w.ins.map (.int .i64)),.i w.used] 0] false)/\ fr 3= .ptr ⟨0,3,0⟩ 0/\ en ⟨0,3,0⟩=some (.box [.mp ⟨0,6,0⟩] false)/\
  en ⟨0,6,0⟩=some (.map ((w.tasks.take k).map (.int .i64)) ((w.tasks.take k).map fun _=> .bool true) false)/\ fr 11= .is w.tasks/\ fr 12= .i w.tasks.length/\ fr 13= .i k/\ bP w (w.tasks.take k) (w.tasks.drop k)=bP w [] w.tasks) 0 (bO8 _)
  ⟨_,_,_,rfl,by simp only[go_sem],by simp only[go_sem],by simp only[go_sem],by simp only[go_sem],by simp only[go_sem],by simp only[go_sem],by simp only[go_sem],by simp only[go_sem],rfl⟩ ?_
 rintro k st hk ⟨fr,en,cnt,rfl,h1,e1,h3,e3,e6,h11,h12,h13,hI⟩
 simp only[go_sem,kK,h12,h13]
 refine aH (fun hq=>?_) (fun hq=>?_)
 ·have h':k<w.tasks.length:=of_decide_eq_true hq;rw[bPy h',bP]at hI;simp only[go_sem,kK,h',h1,e1,h11,h13,(jF _ _ _).ret,e]
  refine aL (fun hb=>?_) (fun hb=>?_)
  ·simp at hb
   simp only[go_sem,kK,hb,bPd,h1,e1,yJ]
   refine aL (fun hc=>?_) (fun hc=>?_)
   ·have hc':cW (w.obj w.tasks[k])=true:=by simpa[cW]using hc
    simp only[go_sem,kK,hc,h3,e3,e6,aNg]
    refine aH (fun hd=>?_) (fun hd=>?_)
    ·simp only[go_sem,kK];rw[hb,hc',hd]at hI;rw[aA0,<-hI];rfl
    ·rw[hb,hc',hd]at hI;simp only[bPh,bPr]at hI;rcases aAz w.tasks[k] (w.tasks.take k)with⟨i,f1,f2,_⟩|⟨f1,_⟩
     ·rw[hd]at f2;cases f2
     ·simp only[go_sem,h3,e3,e6,h13,f1]
      refine⟨_,_,_,rfl,?_⟩
      simp only[go_sem,h1,e1,h3,e3,h11,h12,kW h',bQg,aT h' hw.tasks];exact hI
   ·have hc':cW (w.obj w.tasks[k])=false:=by simp at hc;simp[cW,hc]
    simp only[go_sem,kK,hc];rw[hb,hc']at hI;rw[aA0,<-hI];rfl
  ·simp at hb
   simp only[go_sem,kK,hb,bPh];rw[hb]at hI;rw[aA0,<-hI];rfl
 ·have:k=w.tasks.length:=by simp at hq;omega
  subst this;rw[bQp]at e6 hI;rw[bQt,bP]at hI;have hp: ∀i:Nat,i<w.objs.length->PC L 261 [.i i,.fp [.fm (w.tasks.map (.int .i64)) (w.tasks.map fun _=> .bool true)] 0,.fp [.fp [.fz (p.nodes.map aJ.enc),.fz (p.funs.map (.int .i64)),.i p.main,.fz (p.cons.map cO.enc),.fz (w.objs.map aR.enc),.fz (w.tasks.map (.int .i64)),.fz (w.outs.map bR.enc),.fz (w.ins.map (.int .i64)),.i w.used] 0] 0] (.bool ((w.tasks.any fun x=>decide (x=(i:Int)))||!cW (w.obj i))):=fun i hi=>xK p w w.tasks i hi
  have ask:dV L (fun x:Int=> .i x) (.fn 261 [] [.fp [.fm (w.tasks.map (.int .i64)) (w.tasks.map fun _=> .bool true)] 0,.fp [.fp [.fz (p.nodes.map aJ.enc),.fz (p.funs.map (.int .i64)),.i p.main,.fz (p.cons.map cO.enc),.fz (w.objs.map aR.enc),.fz (w.tasks.map (.int .i64)),.fz (w.outs.map bR.enc),.fz (w.ins.map (.int .i64)),.i w.used] 0] 0]) (fun j=>(w.tasks.any fun x=>decide (x=j))||!cW (w.obj j)) ((List.range w.objs.length).map fun(i:Nat)=>(i:Int)):=by
   refine⟨fun n en hn=>?_,rfl,rfl,rfl,fun x hx en K hK=>?_⟩
   ·obtain⟨m,rfl⟩: ∃m,n=m+4:=⟨n-4,by omega⟩
    simp only[go_sem]
   ·obtain⟨i,hi,rfl⟩:=bPt.1 hx;simp only[go_sem,(hp i (by simpa using hi)).ret]
    exact hK
  have hall:=zM _ _ _ (by simpa using hw.objs) ask
  have he:List.map (Val.int .i64) ((List.range w.objs.length).map fun(i:Nat)=>(i:Int))=(List.range w.objs.length).map fun(i:Nat)=>Val.int .i64 i:=by simp
  rw[he]at hall;simp only[go_sem,h1,e1,h3,e3,e6,(aIb _).ret,(aU3 _ hn).ret,bFh,hall.ret];rw[aA0,<-hI,bPr,aIn,List.all_map];rfl
theorem aEy : ∀(l N:List Nat),l.Nodup->(∀x∈l,x∈N)->l.length<=N.length
 |[],N,_,_=>bO8 _
 |x::l,N,hn,hs=>by
  have hx:x∈N:=hs x (by simp)
  rw[List.nodup_cons]at hn;have:=aEy l (N.erase x) hn.2 fun y hy=>by
   rw[List.mem_erase_of_ne (by rintro rfl;exact hn.1 hy)]
   exact hs y (by simp[hy])
  rw[List.length_erase_of_mem hx]at this;have:=List.length_pos_of_mem hx;simp only[bO7];omega
def uL (w:aA):List Nat:=(List.range w.objs.length).filter fun(i:Nat)=>cW (w.obj (i:Int))
theorem yS (w:aA):(uL w).length=w.objs.countP cW:=by
 have h:w.objs=(List.range w.objs.length).map fun(i:Nat)=>w.obj (i:Int):=by
  refine List.ext_getElem (by simp) fun i h1 h2=>?_
  simp[aA.obj,bO2,h1]
 conv=>rhs;rw[h,List.countP_map]
 rw[uL,List.countP_eq_length_filter];rfl
theorem aA2 (w:aA): ∀(l met:List Int),bP w met l=true->(∀x∈l,inR x 0 (w.objs.length-1)=true/\ cW (w.obj x)=true)/\ (l.map Int.toNat).Nodup/\ ∀x∈l,x∉met
 |[],met,_=>by simp
 |x::l,met,h=>by
  simp only[bP,bOx]at h;obtain⟨⟨⟨h1,h2⟩,h3⟩,h4⟩:=h;obtain⟨k1,k2,k3⟩:=aA2 w l (met++[x]) h4;have hxm:x∉met:=by
   intro hm;simp only[bQb,List.any_eq_false]at h3;exact absurd (h3 x hm) (by simp)
  refine⟨fun y hy=>?_,?_,fun y hy=>?_⟩
  ·rcases bP0.1 hy with rfl|hy
   ·exact⟨h1,h2⟩
   ·exact k1 y hy
  ·rw[bPw,List.nodup_cons]
   refine⟨fun hm=>?_,k2⟩
   obtain⟨y,hy,he⟩:=bPt.1 hm;have a:=(k1 y hy).1;simp only[inR,bSi]at a h1;have:y=x:=by omega
   subst this;exact k3 y hy (by simp)
  ·rcases bP0.1 hy with rfl|hy
   ·exact hxm
   ·exact fun hm=>k3 y hy (by simp[hm])
theorem aU4 (w:aA):aA0 w=gW w:=by
 unfold aA0 gW;cases hd:bP w [] w.tasks with
 |false=>simp
 |true=>
  obtain⟨k1,k2,_⟩:=aA2 w _ _ hd;have hsub: ∀x∈w.tasks.map Int.toNat,x∈uL w:=by
   intro x hx;obtain⟨y,hy,rfl⟩:=bPt.1 hx;obtain⟨a,b⟩:=k1 y hy;have a':=a;simp only[inR,bSi]at a'
   refine bQi.2 ⟨bPu.2 (by omega),?_⟩
   rw[bSa a'.1];exact b
  have hle:=aEy _ _ k2 hsub;rw[yS,bOz]at hle;simp only[bPr,bQ2];have hcov:aIn w w.tasks=true↔ ∀x∈uL w,x∈w.tasks.map Int.toNat:=by
   simp only[aIn,bO4,bPu,bP3,bQb,uL,bQi,bRy,bSi];constructor
   ·rintro h x ⟨hx,ht⟩
    rcases h x hx with⟨y,hy,he⟩|hf
    ·exact bPt.2 ⟨y,hy,by omega⟩
    ·rw[ht]at hf;cases hf
   ·intro h x hx;cases ht:cW (w.obj (x:Int))with
    |false=>exact .inr rfl
    |true=>
     obtain⟨y,hy,he⟩:=bPt.1 (h x ⟨hx,ht⟩);have a:=(k1 y hy).1;simp only[inR,bSi]at a;exact .inl ⟨y,hy,by omega⟩
  rw[bRd,hcov,bSi];constructor
  ·intro h;have hN:(uL w).Nodup:=List.Pairwise.filter _ List.nodup_range;have:=aEy _ _ hN h;rw[yS,bOz]at this;omega
  ·intro he x hx
   by_cases hm:x∈w.tasks.map Int.toNat
   ·exact hm
   ·exfalso
    have:=aEy (x::w.tasks.map Int.toNat) (uL w) (List.nodup_cons.2 ⟨hm,k2⟩) fun y hy=>by
     rcases bP0.1 hy with rfl|hy
     ·exact hx
     ·exact hsub y hy
    rw[yS,bO7,bOz]at this;omega
def wK (p:aF)(w:aA):Bool:=
 decide ((w.objs.length:Int)<=120)&&w.objs.all (aSh p w)&&aA0 w&&decide ((w.outs.length:Int)<=100)&&w.outs.all vN&&nA w.ins 50&&inR w.used 0 1000000000
theorem rQ (p:aF)(w:aA)(hp:p.few)(hw:w.few):PC L 167 [.fp [.fz (p.nodes.map aJ.enc),.fz (p.funs.map (.int .i64)),.i p.main,.fz (p.cons.map cO.enc),.fz (w.objs.map aR.enc),.fz (w.tasks.map (.int .i64)),.fz (w.outs.map bR.enc),.fz (w.ins.map (.int .i64)),.i w.used] 0] (.bool (wK p w)):=by
 have ask:dV L (fun x:aR=> .agg [.i x.form,.i x.n,.fz (x.vals.map aD.enc),.fz (x.frames.map aB.enc)]) (.fn 213 [.fp [.fz (p.nodes.map aJ.enc),.fz (p.funs.map (.int .i64)),.i p.main,.fz (p.cons.map cO.enc),.fz (w.objs.map aR.enc),.fz (w.tasks.map (.int .i64)),.fz (w.outs.map bR.enc),.fz (w.ins.map (.int .i64)),.i w.used] 0] []) (aSh p w) w.objs:=by
  refine⟨fun n en hn=>?_,rfl,rfl,rfl,fun x hx en K hK=>?_⟩
  ·obtain⟨m,rfl⟩: ∃m,n=m+4:=⟨n-4,by omega⟩
   simp only[go_sem]
  ·simp only[go_sem,(zQ p w x hp hw (hw.obj x hx)).ret];exact hK
 have ask2:dV L (fun x:bR=> .agg [.i x.port,.i x.n]) (.fn 216 [] []) vN w.outs:=by
  refine⟨fun n en hn=>?_,rfl,rfl,rfl,fun x hx en K hK=>?_⟩
  ·obtain⟨m,rfl⟩: ∃m,n=m+4:=⟨n-4,by omega⟩
   simp only[go_sem]
  ·simp only[go_sem,(xJ x).ret];exact hK
 have hL:=at_ Tryz.func167
 conv at hL=>rhs;reduce
 refine aG hL rfl rfl ?_
 simp only[go_sem,kK]
 refine aL (fun h1=>?_) (fun h1=>?_)
 ·have hn:w.objs.length<=1000:=by simp at h1;omega
  have ht:=aA1 p w hw hn;simp only[go_sem,kK,h1,(xH _ _ _ hw.objs ask).ret]
  refine aL (fun h2=>?_) (fun h2=>?_)
  ·simp only[go_sem,kK,h2,ht.ret]
   refine aL (fun h3=>?_) (fun h3=>?_)
   ·simp only[go_sem,kK,h3]
    refine aL (fun h4=>?_) (fun h4=>?_)
    ·simp only[go_sem,kK,h4,(xI _ _ _ hw.outs ask2).ret]
     refine aL (fun h5=>?_) (fun h5=>?_)
     ·simp only[go_sem,kK,h5,(aKn _ hw.ins).ret]
      refine aL (fun h6=>?_) (fun h6=>?_)
      ·simp only[go_sem,kK,h6,(jF _ _ _).ret];simp only[wK,h1,h2,h3,h4,h5,h6,bPr]
      ·simp only[go_sem,kK,h6,bPd];simp only[wK,h1,h2,h3,h4,h5,h6,bPd,bPr,bPm]
     ·simp only[go_sem,kK,h5,bPd];simp only[wK,h1,h2,h3,h4,h5,bPd,bPr,bPm,bQc]
    ·simp only[go_sem,kK,h4,bPd];simp only[wK,h1,h2,h3,h4,bPd,bPr,bPm,bQc]
   ·simp only[go_sem,kK,h3,bPd];simp only[wK,h1,h2,h3,bPd,bPr,bPm,bQc]
  ·simp only[go_sem,kK,h2,bPd];simp only[wK,h1,h2,bPd,bPm,bQc]
 ·simp only[go_sem,kK,h1,bPd];simp only[wK,h1,bPd,bPm]
theorem aSj {p:aF}(h:fG p=true): ∀c∈p.cons,c.args<=3:=by
 intro c hc;simp only[fG,yK,bOx]at h;have:=bO4.1 h.1.2.1.1 c hc;simp only[vQ,inR,bOx,bSi]at this;omega
theorem aKp (p:aF)(w:aA)(h:fG p=true):wK p w=cX p w:=by
 have:w.objs.all (aSh p w)=w.objs.all (dK p w):=by
  congr 1;funext o;exact bA7 p w o (aSj h)
 simp only[wK,cX,this,aU4]
 ac_rfl
theorem aMe (p:aF)(w:aA)(hp:p.few)(hw:w.few)(hs:aS p=true):PC L 95 [.agg p.cs,.agg w.cs] (.i (if gG p w then 0 else 2)):=by
 have hrun: ∃r,PC L 119 [.agg p.cs,.agg w.cs] (.tup [r,.bool (gG p w)])/\ oX r=false/\ (∀n en,6<=n->snapD n en r=some (r,[])):=by
  cases hf:fG p with
  |false=>
   refine⟨.nilp,?_,rfl,fun n en hn=>?_⟩
   ·have hL:=at_ Tryz.func119
    conv at hL=>rhs;reduce
    refine aG hL rfl rfl ?_
    have hb:=wJ p hp hs;rw[hf]at hb;simp only[go_sem,kK,hb.ret];simp[gG,hf]
   ·obtain⟨m,rfl⟩: ∃m,n=m+1:=⟨n-1,by omega⟩
    rfl
  |true=>
   refine⟨.fp [.fz (p.nodes.map aJ.enc),.fz (p.funs.map (.int .i64)),.i p.main,.fz (p.cons.map cO.enc),.fz (w.objs.map aR.enc),.fz (w.tasks.map (.int .i64)),.fz (w.outs.map bR.enc),.fz (w.ins.map (.int .i64)),.i w.used] 0,?_,rfl,fun n en hn=>?_⟩
   ·have hL:=at_ Tryz.func119
    conv at hL=>rhs;reduce
    refine aG hL rfl rfl ?_
    have hb:=wJ p hp hs;rw[hf]at hb;simp only[go_sem,kK,hb.ret,(rQ p w hp hw).ret];rw[aKp p w hf];simp[gG,hf]
   ·obtain⟨m,rfl⟩: ∃m,n=m+1:=⟨n-1,by omega⟩
    rfl
 obtain⟨r,hr,hr1,hr2⟩:=hrun;have hL:=at_ Tryz.func95
 conv at hL=>rhs;reduce
 refine aG hL rfl rfl ?_
 simp only[go_sem,kK,hr.ret];cases hg:gG p w<;>simp only[go_sem,kK,bPd,bPh]
theorem bDj {L:bJ}{c:bB}{st:St}{Q:Ex->St->Prop}(M:St->Prop)(h:Wp L c st fun e st'=>e= .normal/\ M st')(k: ∀fr en cnt,M ⟨fr,en,cnt⟩->Q .normal ⟨fr,en,cnt⟩):Wp L c st Q:=
 Go.Abs.wp_mono c h fun e s hs=>by obtain⟨rfl,hs⟩:=hs;exact k _ _ _ hs
variable {cs xs:List Val}
theorem bDk :(Val.agg (.fz xs::cs)).flat=false:=(rfl)
theorem aX4 :W.apply en (.frz k)=(match en k with
  |some e=>en.set k (some e.freeze)
  |none=>en):=(rfl)
variable {f:Bool}
theorem bDl :Ent.freeze (.blk n cs f)= .blk n cs true:=(rfl)
theorem bDm :Ent.freeze (.box cs f)= .box cs true:=(rfl)
set_option maxRecDepth 100000
set_option maxHeartbeats 4000000
def sH (size:Nat):List Val->Val
 |[]=> .cl []
 |x::xs=> .own size (x::xs)
variable {b:Bool}
theorem wL :dN .eql .slice (.es b) (.es true)=some (.bool b):=(rfl)
theorem aEz {x:Val}:dN .eql .slice (.fz (x::xs)) (.es true)=some (.bool false):=(rfl)
variable {size:Nat}
section
variable {L :bJ}{fr:Nat->Val}{cnt:Nat->Nat->Nat}{Q:St->Prop}{l:List aM}{d:Nat}{x y:Opd}
theorem rR (hx:St.get fr x= .cl [])(hy:St.get fr y= .es b)(k:iW L l ⟨iR fr d (.cl []),en,cnt⟩ Q):iW L (⟨some d,.append size x y,none⟩::l) ⟨fr,en,cnt⟩ Q:=by
 rw[aRh (by rfl)]
 simp only[bPp,dE,eval,fJ,hx,hy,iN,cY,if_true,List.isEmpty_nil,aM5,fL];exact k
theorem qH {z:Val}{zs:List Val}(hx:St.get fr x= .cl [])(hy:St.get fr y= .fz (z::zs))(h1:cY size (z::zs)=true)(hl:(z::zs).length<=16777216)
  (k:iW L l ⟨iR fr d (.bl ⟨0,d,cnt 0 d⟩ 0 (z::zs).length),en.set ⟨0,d,cnt 0 d⟩ (some (.blk size (z::zs) false)),aC cnt 0 d (cnt 0 d+1)⟩ Q):iW L (⟨some d,.append size x y,none⟩::l) ⟨fr,en,cnt⟩ Q:=by
 rw[aRh (by rfl)]
 have he:iN en (.fz (z::zs))=some (z::zs,[]):=bAf;simp only[bPp,dE,eval,fJ,hx,hy,he,h1,if_true,List.isEmpty_cons,bO0,if_false];rw[if_pos ⟨by simpa using hl,rfl⟩]
 simp only[aGd,kH,fL,xC,bPe,bPs,bP1];exact k
end
theorem aE0 (xs:List Val)(h1:cY 1 xs=true)(hl:xs.length<=16777216):PC L 115 [.fz xs] (sH 1 xs):=by
 cases xs with
 |nil=>
  have hL:=at_ Tryz.func115
  conv at hL=>rhs;reduce
  refine aJv hL rfl rfl (.inl rfl) (pY ?_) (pY ?_)
  ·simp only[go_sem,kK,wL];rfl
  ·simp only[go_sem,kK,wL]
   refine rR (b:=false) (by simp only[go_sem]) (by simp only[go_sem]) ?_
   simp only[go_sem];rfl
 |cons x xs=>
  have hL:=at_ Tryz.func115
  conv at hL=>rhs;reduce
  refine aG hL rfl rfl ?_
  simp only[go_sem,kK,aEz]
  refine qH (by simp only[go_sem]) (by simp only[go_sem]) h1 hl ?_
  simp only[go_sem];rfl
theorem aPi (xs:List Val)(h1:cY 2 xs=true)(hl:xs.length<=16777216):PC L 116 [.fz xs] (sH 2 xs):=by
 cases xs with
 |nil=>
  have hL:=at_ Tryz.func116
  conv at hL=>rhs;reduce
  refine aJv hL rfl rfl (.inl rfl) (pY ?_) (pY ?_)
  ·simp only[go_sem,kK,wL];rfl
  ·simp only[go_sem,kK,wL]
   refine rR (b:=false) (by simp only[go_sem]) (by simp only[go_sem]) ?_
   simp only[go_sem];rfl
 |cons x xs=>
  have hL:=at_ Tryz.func116
  conv at hL=>rhs;reduce
  refine aG hL rfl rfl ?_
  simp only[go_sem,kK,aEz]
  refine qH (by simp only[go_sem]) (by simp only[go_sem]) h1 hl ?_
  simp only[go_sem];rfl
theorem aE1 (xs:List Val)(h1:cY 2 xs=true)(hl:xs.length<=16777216):PC L 117 [.fz xs] (sH 2 xs):=by
 cases xs with
 |nil=>
  have hL:=at_ Tryz.func117
  conv at hL=>rhs;reduce
  refine aJv hL rfl rfl (.inl rfl) (pY ?_) (pY ?_)
  ·simp only[go_sem,kK,wL];rfl
  ·simp only[go_sem,kK,wL]
   refine rR (b:=false) (by simp only[go_sem]) (by simp only[go_sem]) ?_
   simp only[go_sem];rfl
 |cons x xs=>
  have hL:=at_ Tryz.func117
  conv at hL=>rhs;reduce
  refine aG hL rfl rfl ?_
  simp only[go_sem,kK,aEz]
  refine qH (by simp only[go_sem]) (by simp only[go_sem]) h1 hl ?_
  simp only[go_sem];rfl
theorem pK (h:xs≠[]):sH size xs= .own size xs:=by cases xs<;>first|rfl|exact absurd rfl h
theorem aSk (l:List aD):cY 2 (l.map aD.enc)=true:=by cases l<;>rfl
theorem aSl (l:List bR):cY 2 (l.map bR.enc)=true:=by cases l<;>rfl
theorem aHn (l:List Int):cY 1 (l.map (Val.int .i64))=true:=by cases l<;>rfl
variable {k':Key}
theorem bA9 :jS (.frz k) (.val k')=true:=rfl
theorem bBa {o:Nat}:jS (.frz k) (.cells k' o n)=true:=rfl
theorem bBb :mM (.frz k) (.frz k')=true:=rfl
theorem bBc {e:Option Ent}:mM (.frz k) (.ent k' e)=decide (k≠k'):=rfl
variable {vs:List Val}
theorem bBd {o:Nat}:mM (.frz k) (.cells k' o vs)=decide (k≠k'):=rfl
theorem bBe :jS (.frz k) (.flag k')=decide (k≠k'):=rfl
theorem aX5 {o:Nat}:mM (.cells k o vs) (.frz k')=decide (k≠k'):=rfl
theorem bBf :(Val.fz xs).flat=false:=(rfl)
attribute [go_sem] bA9 bBa bBb bBc bBd bBe aX5 bBf bDk aX4 bDl bDm
theorem qA {xs:List Val}:(Val.cl xs).one=true:=(rfl)
theorem kZ {xs:List Val}:(Val.cl xs).cells=[.cl xs]:=(rfl)
theorem uM {k:Key}{a b:Nat}:(Val.bl k a b).one=true:=(rfl)
theorem nC {k:Key}{a b:Nat}:(Val.bl k a b).cells=[.bl k a b]:=(rfl)
theorem bDn {a b:IntKind}{i j:Int}:(Val.agg (.int a i:: .int b j:: .fz xs::cs)).flat=false:=(rfl)
theorem kB :type_of% @qA/\ type_of% @kZ/\ type_of% @uM/\ type_of% @nC:=⟨@qA,@kZ,@uM,@nC⟩
variable {t:Nat}
theorem bDo {g:Nat}(h:en ⟨0,t,g⟩=some (.blk size xs f))(hx:n=xs.length):jK en (.bl ⟨0,t,g⟩ 0 n) size xs [t]:= .inr ⟨t,g,f,by rw[hx],h,by simp⟩
theorem aA3 (size:Nat)(xs:List Val):(xs=[]/\ sH size xs= .cl []) \/(xs≠[]/\ sH size xs= .own size xs):=by
 cases xs with
 |nil=>exact .inl ⟨rfl,rfl⟩
 |cons x xs=>exact .inr ⟨by simp,rfl⟩
theorem aPj {α:Type}{f:α->Val}{l:List α}:(l.map f).take l.length=l.map f:=bPi (by simp)
theorem aU5 {w:aA}(h:dB w=true):w.objs.length<=130/\ w.tasks.length<=130/\ w.outs.length<=110/\ w.ins.length<=60:=by
 simp only[dB,bOx,bSi]at h;omega
set_option maxRecDepth 100000
set_option maxHeartbeats 4000000
section
variable {α :Type}{f g:Nat->α}{k:Nat}
end
theorem aB.eq_iff {a b:aB}:decide (a=b)=(decide (a.node=b.node)&&decide (a.env=b.env)&&decide (a.vals=b.vals)):=by
 cases a;cases b;simp[Bool.and_assoc]
theorem aR.eq_iff {a b:aR}:decide (a=b)=(decide (a.form=b.form)&&decide (a.n=b.n)&&decide (a.vals=b.vals)&&decide (a.frames=b.frames)):=by
 cases a;cases b;simp[Bool.and_assoc]
def aHo (en:En)(v:Val)(size:Nat)(xs:List Val)(t:Nat):Prop:=(v= .cl []/\ xs=[]) \/ ∃g,v= .bl ⟨0,t,g⟩ 0 xs.length/\ en ⟨0,t,g⟩=some (.blk size xs false)
theorem aHo.mine {v:Val}(h:aHo en v size xs t):jK en v size xs [t]:=by
 rcases h with h|⟨g,h1,h2⟩
 ·exact .inl h
 ·exact .inr ⟨t,g,false,h1,h2,by simp⟩
theorem bGz {a b:List Val}:dN .neq .map (.fm a b) .nilm=some (.bool true):=(rfl)
theorem bDp {ks:List Val}{f:Bool}:Ent.freeze (.map ks vs f)= .map ks vs true:=(rfl)
theorem bDq {off:Nat}:eV (.agg cs) off vs= .agg (setCells cs off vs):=(rfl)
attribute [go_sem] bGz bFh bDp bDq bA8 aSi
end Go.Proofs.YtmnchlhngpdffaaGreat
namespace Go.Abs
structure lV where
 task:Int
 act:Int
 n:Int
 v:aD
structure Did where
 w:aA
 what:Int
 e:lV
def Did.enc (d:Did):Val:= .agg [.fz (d.w.objs.map aR.enc),.fz (d.w.tasks.map (.int .i64)),.fz (d.w.outs.map bR.enc),.fz (d.w.ins.map (.int .i64)),.i d.w.used,.i d.what,.i d.e.task,.i d.e.act,.i d.e.n,.i d.e.v.kind,.i d.e.v.n]
def jL :aD:=⟨0,0⟩
def iE :lV:=⟨0,0,0,jL⟩
def bBg :aR:=⟨0,0,[],[]⟩
def dQ :aB:=⟨0,[],[]⟩
def bO :aD:=⟨3,0⟩
def mK (n:Int):aD:=⟨1,n⟩
def mR (b:Bool):aD:=⟨2,if b=true then 1 else 0⟩
def dO (n:Int):aD:=⟨5,n⟩
def qU (v:aD):aD:=if v.kind=4 \/v.kind=5 then dO 0 else v
def bA (w:aA)(a:Int):Int:=w.tasks.getD a.toNat 0
def eC (w:aA)(n:Int)(o:aR):aA:=⟨w.objs.set n.toNat o,w.tasks,w.outs,w.ins,w.used⟩
def eF (w:aA)(o:aR):aA:=⟨w.objs++[o],w.tasks,w.outs,w.ins,w.used⟩
def bI (w:aA)(a st:Int):Did:=⟨eC w (bA w a) ⟨6,st,[],[]⟩,1,⟨a,0,st,jL⟩⟩
def bY (w:aA)(a:Int)(left:List aB)(v:aD):Did:=⟨eC w (bA w a) ⟨6,0,[v],left⟩,0,iE⟩
def gL (w:aA)(a:Int)(left:List aB)(node:Int)(env:List aD):Did:=
 if 40<=left.length \/30<env.length then bI w a 4 else⟨eC w (bA w a) ⟨6,0,[],left++[⟨node,env,[]⟩]⟩,0,iE⟩
def iF (w:aA)(a:Int)(left:List aB)(o:aR):Did:=if 120<=w.objs.length then bI w a 4 else bY (eF w o) a left (dO w.objs.length)
def dF (d:Did)(a act n:Int)(v:aD):Did:=if d.what=1 then d else⟨d.w,1,⟨a,act,n,qU v⟩⟩
def dA (w:aA)(v:aD)(form:Int):Bool:=decide (v.kind=5)&&decide ((w.obj v.n).form=form)
def bG0 (p:aF)(n:Int):Int:=p.funs.getD n.toNat 0
def oJ (n:aJ)(i:Int):Int:=n.kids.getD i.toNat 0
def fH (p:aF)(w:aA)(f v:aD):Option aB:=
 if f.kind=4 then some ⟨bG0 p f.n,[v],[]⟩
 else if dA w f 2=true then some ⟨oJ (p.node (w.obj f.n).n) 0,(w.obj f.n).vals++[v],[]⟩else none
def eX (p:aF)(w:aA)(a:Int)(left:List aB)(f v:aD):Did:=
 if dA w f 5=true then(if 40<(left++(w.obj f.n).frames).length then bI w a 4 else bY w a (left++(w.obj f.n).frames) v)
 else match fH p w f v with
  |none=>bI w a 2
  |some b=>gL w a left b.node b.env
def qV (op x y:Int):Int:=if op=9 then x+y else if op=10 then x-y else if op=11 then x*y else 0
def cM (w:aA)(a:Int)(left:List aB)(op:Int)(u v:aD):Did:=
 if op=13 then(if¬u.kind=v.kind \/3<u.kind then bI w a 2 else bY w a left (mR (decide (u=v))))
 else if¬u.kind=1 \/ ¬v.kind=1 then bI w a 2
 else if op=12 then bY w a left (mR (decide (u.n<v.n)))
 else if inR (qV op u.n v.n) (-1000000000) 1000000000=true then bY w a left (mK (qV op u.n v.n))else bI w a 4
mutual
def gR (w:aA):Pat->aD->Option (List aD)
 | .mk f n _ ps,v=>
  if f=1 then some []
  else if f=2 then some [v]
  else if f=3 then(if v=mK n then some []else none)
  else if f=4 then(if v=mR (decide (n=1))then some []else none)
  else if f=5 then(if v=bO then some []else none)
  else if dA w v 1=true/\ (w.obj v.n).n=n/\ (w.obj v.n).vals.length=ps.length then gX w ps (w.obj v.n).vals else none
def gX (w:aA):List Pat->List aD->Option (List aD)
 |q::ps,v::vs=>match gR w q v with
  |none=>none
  |some l=>match gX w ps vs with
   |none=>none
   |some r=>some (l++r)
 |_,_=>some []
end
def jQ (w:aA)(a:Int)(left:List aB)(kids:List Int)(env:List aD)(u:aD):Nat->List Pat->Did
 |_,[]=>bI w a 3
 |i,q::qs=>match gR w q u with
  |some l=>gL w a left (kids.getD (1+i) 0) (env++l)
  |none=>jQ w a left kids env u (i+1) qs
def jX (w:aA)(a:Int)(left:List aB)(n:aJ)(env:List aD)(u:aD):Did:=jQ w a left n.kids env u 0 n.pats
def fZ (p:aF)(left:List aB):Nat->Nat
 |0=>0
 |k+1=>if(p.node (left.getD k default).node).op=26 then k+1 else fZ p left k
def eY (p:aF)(w:aA)(a:Int)(left:List aB)(kid:Int)(env:List aD):Did:=
 match fZ p left left.length with
 |0=>bI w a 3
 |k+1=>
  if 120<=w.objs.length then bI w a 4
  else
   let d:=gL (eF w ⟨5,0,[],left.drop k⟩) a (left.take (k+1)) kid (env++[dO w.objs.length])
   if d.what=1 then bI w a d.e.n else d
def qI (w:aA):aA:=⟨w.objs,w.tasks++[(w.objs.length:Int)-1],w.outs,w.ins,w.used⟩
def zN (w:aA)(a:Int)(left:List aB)(o:aR):Did:=
 let d:=iF w a left o
 dF (if d.what=1 then d else⟨qI d.w,d.what,d.e⟩) a 19 0 bO
def eJ (p:aF)(w:aA)(a:Int)(left:List aB)(f:aD):Did:=
 if dA w f 5=true then zN w a left ⟨6,0,[bO],(w.obj f.n).frames⟩
 else match fH p w f bO with
  |none=>bI w a 2
  |some b=>if 30<b.env.length then bI w a 4 else zN w a left ⟨6,0,[],[b]⟩
def aE (l:List aD)(i:Nat):aD:=l.getD i jL
def eN (w:aA)(a:Int)(left:List aB)(op:Int)(l:List aD):Did:=
 if op=16 then dF (iF w a left ⟨3,0,[aE l 0],[]⟩) a op 0 (aE l 0)
 else if dA w (aE l 0) 3=true then
  (if op=17 then dF (bY w a left (aE (w.obj (aE l 0).n).vals 0)) a op 0 (aE (w.obj (aE l 0).n).vals 0)
  else dF (bY (eC w (aE l 0).n ⟨3,0,[aE l 1],[]⟩) a left bO) a op 0 (aE l 1))
 else bI w a 2
def mL (w:aA):Did:=⟨w,2,iE⟩
def cE (w:aA)(a:Int)(left:List aB)(op:Int)(l:List aD):Did:=
 if dA w (aE l 0) 4=true then
  (if op=22 then
   (if 4<=(w.obj (aE l 0).n).vals.length then mL w
   else dF (bY (eC w (aE l 0).n ⟨4,0,(w.obj (aE l 0).n).vals++[aE l 1],[]⟩) a left bO) a op 0 (aE l 1))
  else if(w.obj (aE l 0).n).vals.length=0 then mL w
  else dF (bY (eC w (aE l 0).n ⟨4,0,(w.obj (aE l 0).n).vals.drop 1,[]⟩) a left (aE (w.obj (aE l 0).n).vals 0)) a op 0 (aE (w.obj (aE l 0).n).vals 0))
 else bI w a 2
def gC (w:aA)(a:Int)(left:List aB)(v:aD):Did:=
 if dA w v 6=true then
  (if(w.obj v.n).n=0 then mL w
  else if¬(w.obj v.n).n=1 then bI w a (w.obj v.n).n
  else dF (bY w a left (aE (w.obj v.n).vals 0)) a 20 0 (aE (w.obj v.n).vals 0))
 else bI w a 2
def dG (w:aA)(a:Int)(left:List aB)(op port:Int)(l:List aD):Did:=
 if op=25 then
  (match w.ins with
  |[]=>mL w
  |x::xs=>if 1000000000<=w.used then bI w a 4 else dF (bY ⟨w.objs,w.tasks,w.outs,xs,w.used+1⟩ a left (mK x)) a op 0 (mK x))
 else if¬(aE l 0).kind=1 then bI w a 2
 else if 100<=w.outs.length then bI w a 4
 else dF (bY ⟨w.objs,w.tasks,w.outs++[⟨port,(aE l 0).n⟩],w.ins,w.used⟩ a left bO) a op port (aE l 0)
def bS (p:aF)(w:aA)(a:Int)(left:List aB)(f:aB)(n:aJ):Did:=
 if n.op=1 then bY w a left (mK n.n)
 else if n.op=2 then bY w a left (mR (decide (n.n=1)))
 else if n.op=3 then bY w a left bO
 else if n.op=4 then(if n.n<0 then bY w a left ⟨4,-1-n.n⟩else if(f.env.length:Int)<=n.n then bI w a 2 else bY w a left (aE f.env n.n.toNat))
 else if n.op=5 then iF w a left ⟨2,f.node,f.env,[]⟩
 else if n.op=6 then eX p w a left (aE f.vals 0) (aE f.vals 1)
 else if n.op=7 then gL w a left (oJ n 1) (f.env++[aE f.vals 0])
 else if n.op=8 then(if¬(aE f.vals 0).kind=2 then bI w a 2 else gL w a left (oJ n (2-(aE f.vals 0).n)) f.env)
 else if n.op=9 \/n.op=10 \/n.op=11 \/n.op=12 \/n.op=13 then cM w a left n.op (aE f.vals 0) (aE f.vals 1)
 else if n.op=14 then iF w a left ⟨1,n.n,f.vals,[]⟩
 else if n.op=15 then jX w a left n f.env (aE f.vals 0)
 else if n.op=26 then bY w a left (aE f.vals 0)
 else if n.op=27 then eY p w a left (oJ n 0) f.env
 else if n.op=16 \/n.op=17 \/n.op=18 then eN w a left n.op f.vals
 else if n.op=19 then eJ p w a left (aE f.vals 0)
 else if n.op=20 then gC w a left (aE f.vals 0)
 else if n.op=21 then dF (iF w a left ⟨4,0,[],[]⟩) a 21 0 bO
 else if n.op=22 \/n.op=23 then cE w a left n.op f.vals
 else if n.op=24 \/n.op=25 then dG w a left n.op n.n f.vals
 else dF (bY w a left bO) a 28 0 bO
def rS (p:aF)(w:aA)(a:Int)(left:List aB)(f:aB):Did:=bS p w a left f (p.node f.node)
def aCq (l:List aB)(v:aD):List aB:=l.set (l.length-1) ⟨(l.getD (l.length-1) dQ).node,(l.getD (l.length-1) dQ).env,(l.getD (l.length-1) dQ).vals++[v]⟩
def cJ (p:aF)(w:aA)(a:Int):Did:=
 let o:=w.obj (bA w a)
 if¬o.n=0 then mL w
 else if o.vals.length=1 then
  (if o.frames.length=0 then⟨eC w (bA w a) ⟨6,1,[aE o.vals 0],[]⟩,1,⟨a,0,1,qU (aE o.vals 0)⟩⟩
  else⟨eC w (bA w a) ⟨6,0,[],aCq o.frames (aE o.vals 0)⟩,0,iE⟩)
 else
  let f:=o.frames.getD (o.frames.length-1) dQ
  if(f.vals.length:Int)<(p.node f.node).asks then gL w a o.frames (oJ (p.node f.node) f.vals.length) f.env
  else rS p w a (o.frames.take (o.frames.length-1)) f
end Go.Abs
namespace Go.Proofs.YtmnchlhngpdffaaGreat
open Go.Abs Go.Proofs
set_option maxRecDepth 100000
set_option maxHeartbeats 4000000
variable {size n:Nat}{rs:List R}{ys:List Val}{k:Key}
section
variable {L :bJ}{fr:Nat->Val}{en:En}{cnt:Nat->Nat->Nat}{Q:St->Prop}{l:List aM}{d g:Nat}{dst:Option Nat}{get:Opd->Val}
def aMf (d g:Nat)(en:En)(size:Nat)(x:Val)(s:Option (List Val×List R)):Option Res:=fJ 0 d g en size x s
theorem eG {x y:Opd}:dE d g en get (.append size x y)=aMf d g en size (get x) (iN en (get y)):=(rfl)
theorem nD :aMf d g en size (.cl []) (some ([],rs))=some {v:= .cl [],rs}:=by simp[aMf,fJ,cY]
theorem iX (h0:ys.isEmpty=false)(h1:cY size ys=true)(hl:ys.length<=16777216):
  aMf d g en size (.cl []) (some (ys,rs))=some {v:= .bl ⟨0,d,g⟩ 0 ys.length,ws:=[.ent ⟨0,d,g⟩ (some (.blk size ys false))],rs,bump:=true}:=by
 have hz:cY size []=true:=rfl;simp[aMf,fJ,h1,h0,hl,hz]
def bBh (d g:Nat)(k:Key)(size n:Nat)(ys:List Val)(rs:List R)(e:Option Ent):Option Res:=
 match e with
 |some (.blk sz xs f)=>if(0+n=xs.length \/f=false/\ 0+n<=xs.length)/\ n+ys.length<=16777216/\ sz=size/\ (k.deep=true->0=3)then
      some {v:= .bl ⟨0,d,g⟩ 0 (n+ys.length),ws:=[.ent k none,.ent ⟨0,d,g⟩ (some (.blk size ((xs.take (0+n)).drop 0++ys) f))],rs:= .val k:: .flag k::rs,bump:=true}else none
 |_=>none
theorem uN (h1:cY size ys=true):aMf d g en size (.bl k 0 n) (some (ys,rs))=bBh d g k size n ys rs (en k):=by
 simp only[aMf,fJ,h1,if_true];rfl
theorem lA {xs:List Val}{f:Bool}(hn:n=xs.length)(hl:n+ys.length<=16777216)(hd:k.deep=false):
  bBh d g k size n ys rs (some (.blk size xs f))=some {v:= .bl ⟨0,d,g⟩ 0 (n+ys.length),ws:=[.ent k none,.ent ⟨0,d,g⟩ (some (.blk size (xs++ys) f))],rs:= .val k:: .flag k::rs,bump:=true}:=by
 subst hn;simp[bBh,hl,hd]
@[congr] theorem bG1 {e e':Option Ent}(h:e=e'):bBh d g k size n ys rs e=bBh d g k size n ys rs e':=by rw[h]
end
theorem yT (l:List aR):cY 4 (l.map aR.enc)=true:=by cases l<;>rfl
theorem aB0 (l:List Int):cY 1 (l.map (.int .i64))=true:=by cases l<;>rfl
theorem aPk (l:List bR):cY 2 (l.map bR.enc)=true:=by cases l<;>rfl
theorem sR (l:List aD):cY 2 (l.map aD.enc)=true:=by cases l<;>rfl
theorem jA (l:List aB):cY 3 (l.map aB.enc)=true:=by cases l<;>rfl
theorem aB1 {a b:Int}:cY 2 [.agg [.i a,.i b]]=true:=(rfl)
theorem iI {α:Type}{f:α->Val}{l:List α}:(l.map f).isEmpty=l.isEmpty:=by cases l<;>rfl
theorem aKq {α:Type}{l:List α}(h:0<l.length):l.isEmpty=false:=by cases l<;>simp at h⊢
theorem aKr (n:Int):PC L 176 [.i n] (.agg [.i (dO n).kind,.i (dO n).n]):=by
 have hL:=at_ Tryz.func176
 conv at hL=>rhs;reduce
 refine aG hL rfl rfl ?_
 simp only[go_sem,kK,dO]
theorem aDh (n:Int):PC L 52 [.i n] (.agg [.i (mK n).kind,.i (mK n).n]):=by
 have hL:=at_ Tryz.func52
 conv at hL=>rhs;reduce
 refine aG hL rfl rfl ?_
 simp only[go_sem,kK,mK]
theorem mS :PC L 180 [] (.agg [.i bO.kind,.i bO.n]):=by
 have hL:=at_ Tryz.func180
 conv at hL=>rhs;reduce
 refine aG hL rfl rfl ?_
 simp only[go_sem,kK,bO]
theorem aIo (b:Bool):PC L 179 [.bool b] (.agg [.i (mR b).kind,.i (mR b).n]):=by
 have hL:=at_ Tryz.func179
 conv at hL=>rhs;reduce
 refine aG hL rfl rfl ?_
 cases b<;>simp only[go_sem,kK,mR]
theorem aNh (v:aD):PC L 127 [.agg [.i v.kind,.i v.n]] (.agg [.i (qU v).kind,.i (qU v).n]):=by
 obtain⟨k,n⟩:=v;have hL:=at_ Tryz.func127
 conv at hL=>rhs;reduce
 refine aG hL rfl rfl ?_
 by_cases h4:k=4
 ·subst h4;simp only[go_sem,kK,(aKr 0).ret,qU,true_or,dO]
 ·have g4:decide (k=4)=false:=decide_eq_false h4
  by_cases h5:k=5
  ·subst h5;simp only[go_sem,kK,(aKr 0).ret,qU,or_true,dO]
  ·have g5:decide (k=5)=false:=decide_eq_false h5;simp only[go_sem,kK,qU,h4,h5,or_self]
theorem aE2 (l:List aD)(v:aD)(hl:l.length<1000000):PC L 128 [.fz (l.map aD.enc),.agg [.i v.kind,.i v.n]] (.fz ((l++[v]).map aD.enc)):=by
 have hlen:l.length+1<=16777216:=by omega
 have hl1:l.length<=16777216:=by omega
 have hL:=at_ Tryz.func128
 conv at hL=>rhs;reduce
 refine aG hL rfl rfl ?_
 simp only[go_sem,kK]
 refine aI ?_
 cases hl0:l.isEmpty with
 |true=>
  have:l=[]:=by simpa using hl0
  subst this;simp only[go_sem,bT,eG,nD,iX,List.isEmpty_cons,aB1,kA,bO0,if_false]
 |false=>
  simp only[go_sem,bT,eG,iX,uN,iI,hl0,hl1,hlen,lA,sR,aB1,bOz,bPg,bRz,bOy,bPi,bQg,kA,bO0,if_false]
  trace_state
end Go.Proofs.YtmnchlhngpdffaaGreat
namespace Go.Abs
inductive OpR where
 |go (ev:Option lV) (w:aA) (left:List aB) (back:List aD)
 |wait
 |fail (s:Int)
def OpR.did (w:aA)(a:Int):OpR->Did
 | .go none w' left back=>⟨eC w' (bA w' a) ⟨6,0,back,left⟩,0,iE⟩
 | .go (some e) w' left back=>⟨eC w' (bA w' a) ⟨6,0,back,left⟩,1,e⟩
 | .wait=>mL w
 | .fail s=>bI w a s
def iQ (w:aA)(left:List aB)(v:aD):OpR:= .go none w left [v]
def jY (w:aA)(a:Int)(left:List aB)(op n:Int)(v e:aD):OpR:= .go (some ⟨a,op,n,qU e⟩) w left [v]
def qJ (w:aA)(left l:List aB):OpR:=if 40<(left++l).length then .fail 4 else .go none w (left++l) []
def kO (w:aA)(left:List aB)(node:Int)(env:List aD):OpR:=if 30<env.length then .fail 4 else qJ w left [⟨node,env,[]⟩]
def iZ (w:aA)(o:aR)(k:aA->aD->OpR):OpR:=if 120<=w.objs.length then .fail 4 else k (eF w o) (dO w.objs.length)
def eP (w:aA)(left:List aB)(kids:List Int)(env:List aD)(u:aD):Nat->List Pat->OpR
 |_,[]=> .fail 3
 |i,q::qs=>match gR w q u with
  |some l=>kO w left (kids.getD (1+i) 0) (env++l)
  |none=>eP w left kids env u (i+1) qs
def opR (p:aF)(w:aA)(a:Int)(left:List aB)(f:aB)(n:aJ):OpR:=
 if n.op=1 then iQ w left (mK n.n)
 else if n.op=2 then iQ w left (mR (decide (n.n=1)))
 else if n.op=3 then iQ w left bO
 else if n.op=4 then(if n.n<0 then iQ w left ⟨4,-1-n.n⟩else if(f.env.length:Int)<=n.n then .fail 2 else iQ w left (aE f.env n.n.toNat))
 else if n.op=5 then iZ w ⟨2,f.node,f.env,[]⟩ fun w' v=>iQ w' left v
 else if n.op=6 then
  (match fH p w (aE f.vals 0) (aE f.vals 1)with
  |some b=>kO w left b.node b.env
  |none=>if dA w (aE f.vals 0) 5=true then(if 40<(left++(w.obj (aE f.vals 0).n).frames).length then .fail 4 else .go none w (left++(w.obj (aE f.vals 0).n).frames) [aE f.vals 1])else .fail 2)
 else if n.op=7 then kO w left (oJ n 1) (f.env++[aE f.vals 0])
 else if n.op=8 then(if¬(aE f.vals 0).kind=2 then .fail 2 else kO w left (oJ n (2-(aE f.vals 0).n)) f.env)
 else if n.op=13 then(if¬(aE f.vals 0).kind=(aE f.vals 1).kind \/3<(aE f.vals 0).kind then .fail 2 else iQ w left (mR (decide (aE f.vals 0=aE f.vals 1))))
 else if n.op=12 then(if¬(aE f.vals 0).kind=1 \/ ¬(aE f.vals 1).kind=1 then .fail 2 else iQ w left (mR (decide ((aE f.vals 0).n<(aE f.vals 1).n))))
 else if n.op=9 \/n.op=10 \/n.op=11 then
  (if¬(aE f.vals 0).kind=1 \/ ¬(aE f.vals 1).kind=1 then .fail 2
  else if inR (qV n.op (aE f.vals 0).n (aE f.vals 1).n) (-1000000000) 1000000000=true then iQ w left (mK (qV n.op (aE f.vals 0).n (aE f.vals 1).n))else .fail 4)
 else if n.op=14 then iZ w ⟨1,n.n,f.vals,[]⟩ fun w' v=>iQ w' left v
 else if n.op=15 then eP w left n.kids f.env (aE f.vals 0) 0 n.pats
 else if n.op=26 then iQ w left (aE f.vals 0)
 else if n.op=27 then
  (match fZ p left left.length with
  |0=> .fail 3
  |k+1=>iZ w ⟨5,0,[],left.drop k⟩ fun w' v=>kO w' (left.take (k+1)) (oJ n 0) (f.env++[v]))
 else if n.op=16 then iZ w ⟨3,0,[aE f.vals 0],[]⟩ fun w' v=>jY w' a left 16 0 v (aE f.vals 0)
 else if n.op=17 then(if dA w (aE f.vals 0) 3=true then jY w a left 17 0 (aE (w.obj (aE f.vals 0).n).vals 0) (aE (w.obj (aE f.vals 0).n).vals 0)else .fail 2)
 else if n.op=18 then(if dA w (aE f.vals 0) 3=true then jY (eC w (aE f.vals 0).n ⟨3,0,[aE f.vals 1],[]⟩) a left 18 0 bO (aE f.vals 1)else .fail 2)
 else if n.op=19 then
  (match fH p w (aE f.vals 0) bO with
  |some b=>if 30<b.env.length then .fail 4 else iZ w ⟨6,0,[],[b]⟩ fun w' v=>jY (qI w') a left 19 0 v bO
  |none=>if dA w (aE f.vals 0) 5=true then iZ w ⟨6,0,[bO],(w.obj (aE f.vals 0).n).frames⟩ fun w' v=>jY (qI w') a left 19 0 v bO else .fail 2)
 else if n.op=20 then
  (if dA w (aE f.vals 0) 6=true then
   (if(w.obj (aE f.vals 0).n).n=0 then .wait
   else if¬(w.obj (aE f.vals 0).n).n=1 then .fail (w.obj (aE f.vals 0).n).n
   else jY w a left 20 0 (aE (w.obj (aE f.vals 0).n).vals 0) (aE (w.obj (aE f.vals 0).n).vals 0))
  else .fail 2)
 else if n.op=21 then iZ w ⟨4,0,[],[]⟩ fun w' v=>jY w' a left 21 0 v bO
 else if n.op=22 then
  (if dA w (aE f.vals 0) 4=true then
   (if 4<=(w.obj (aE f.vals 0).n).vals.length then .wait
   else jY (eC w (aE f.vals 0).n ⟨4,0,(w.obj (aE f.vals 0).n).vals++[aE f.vals 1],[]⟩) a left 22 0 bO (aE f.vals 1))
  else .fail 2)
 else if n.op=23 then
  (if dA w (aE f.vals 0) 4=true then
   (if(w.obj (aE f.vals 0).n).vals.length=0 then .wait
   else jY (eC w (aE f.vals 0).n ⟨4,0,(w.obj (aE f.vals 0).n).vals.drop 1,[]⟩) a left 23 0 (aE (w.obj (aE f.vals 0).n).vals 0) (aE (w.obj (aE f.vals 0).n).vals 0))
  else .fail 2)
 else if n.op=24 then
  (if¬(aE f.vals 0).kind=1 then .fail 2
  else if 100<=w.outs.length then .fail 4
  else jY ⟨w.objs,w.tasks,w.outs++[⟨n.n,(aE f.vals 0).n⟩],w.ins,w.used⟩ a left 24 n.n bO (aE f.vals 0))
 else if n.op=25 then
  (match w.ins with
  |[]=> .wait
  |x::xs=>if 1000000000<=w.used then .fail 4 else jY ⟨w.objs,w.tasks,w.outs,xs,w.used+1⟩ a left 25 0 (mK x) (mK x))
 else jY w a left 28 0 bO bO
variable {a:Int}{left:List aB}{w:aA}
theorem vS {node:Int}{env:List aD}:gL w a left node env=(kO w left node env).did w a:=by
 unfold gL kO qJ;simp only[bPg,bO7,bPe]
 by_cases h1:30<env.length
 ·rw[if_pos (.inr h1),if_pos h1];rfl
 ·rw[if_neg h1]
  by_cases h2:40<=left.length
  ·rw[if_pos (.inl h2),if_pos (by omega)];rfl
  ·rw[if_neg (by omega),if_neg (by omega)];rfl
variable {e v:aD}{n op:Int}
theorem nS {w0:aA}:dF (bY w a left v) a op n e=(jY w a left op n v e).did w0 a:=by
 have: ¬(bY w a left v).what=1:=by simp[bY]
 unfold dF;rw[if_neg this];rfl
theorem aKs {s:Int}:dF (bI w a s) a op n e=bI w a s:=by
 unfold dF;rw[if_pos (show(bI w a s).what=1 from rfl)]
theorem aSm {o:aR}:iF w a left o=(iZ w o fun w' v=>iQ w' left v).did w a:=by
 unfold iF iZ
 split<;>rfl
theorem aNi {o:aR}:dF (iF w a left o) a op n e=(iZ w o fun w' v=>jY w' a left op n v e).did w a:=by
 unfold iF iZ;split
 ·exact aKs
 ·exact nS
theorem aHp {w:aA}{a:Int}{left:List aB}{kids:List Int}{env:List aD}{u:aD}: ∀(l:List Pat) (i:Nat),jQ w a left kids env u i l=(eP w left kids env u i l).did w a
 |[],i=>by simp only[jQ,eP];rfl
 |q::qs,i=>by
  simp only[jQ,eP];cases gR w q u with
  |some l=>exact vS
  |none=>exact aHp qs (i+1)
theorem aSn {o:aR}(ha:inR a 0 ((w.tasks.length:Int)-1)=true):zN w a left o=(iZ w o fun w' v=>jY (qI w') a left 19 0 v bO).did w a:=by
 unfold zN iF iZ;split
 ·simp only
  rw[if_pos (show(bI w a 4).what=1 from rfl)]
  exact aKs
 ·have h1: ¬(bY (eF w o) a left (dO w.objs.length)).what=1:=by simp[bY]
  simp only
  rw[if_neg h1];unfold dF
  simp only
  rw[if_neg h1];simp only[inR,bSi]at ha;have ht:bA (qI (eF w o)) a=bA (eF w o) a:=by
   unfold bA qI eF
   simp only
   rw[bO2,bO2,bR3 (by omega)]
  simp only[jY,OpR.did,ht];simp only[bY,eC,qI,eF,bQ1]
variable {p:aF}
theorem aKt {f:aD}(h:dA w f 5=true):fH p w f v=none:=by
 simp only[dA,bOx,bSi]at h;unfold fH;rw[if_neg (by rw[h.1];decide),if_neg (by simp only[dA,bOx,bSi];rw[h.2];rintro⟨_,h⟩;cases h)]
theorem aKu {f:aB}{n:aJ}(ha:inR a 0 ((w.tasks.length:Int)-1)=true):bS p w a left f n=(opR p w a left f n).did w a:=by
 unfold bS opR
 by_cases h1:n.op=1
 ·rw[if_pos h1,if_pos h1];rfl
 rw[if_neg h1,if_neg h1]
 by_cases h2:n.op=2
 ·rw[if_pos h2,if_pos h2];rfl
 rw[if_neg h2,if_neg h2]
 by_cases h3:n.op=3
 ·rw[if_pos h3,if_pos h3];rfl
 rw[if_neg h3,if_neg h3]
 by_cases h4:n.op=4
 ·rw[if_pos h4,if_pos h4];split
  ·rfl
  ·split<;>rfl
 rw[if_neg h4,if_neg h4]
 by_cases h5:n.op=5
 ·rw[if_pos h5,if_pos h5];exact aSm
 rw[if_neg h5,if_neg h5]
 by_cases h6:n.op=6
 ·rw[if_pos h6,if_pos h6];unfold eX
  by_cases hk:dA w (aE f.vals 0) 5=true
  ·rw[if_pos hk,aKt hk];simp only[hk,if_true]
   split<;>rfl
  ·rw[if_neg hk];cases fH p w (aE f.vals 0) (aE f.vals 1)with
   |none=>simp only[hk];rfl
   |some b=>exact vS
 rw[if_neg h6,if_neg h6]
 by_cases h7:n.op=7
 ·rw[if_pos h7,if_pos h7];exact vS
 rw[if_neg h7,if_neg h7]
 by_cases h8:n.op=8
 ·rw[if_pos h8,if_pos h8];split
  ·rfl
  ·exact vS
 rw[if_neg h8,if_neg h8]
 by_cases h13:n.op=13
 ·rw[if_pos (.inr (.inr (.inr (.inr h13)))),if_pos h13];unfold cM;rw[if_pos h13]
  split<;>rfl
 rw[if_neg h13]
 by_cases h12:n.op=12
 ·rw[if_pos (.inr (.inr (.inr (.inl h12)))),if_pos h12];unfold cM;rw[if_neg h13];split
  ·rfl
  ·rfl
 rw[if_neg h12]
 by_cases h9:n.op=9 \/n.op=10 \/n.op=11
 ·rw[if_pos (by rcases h9 with h|h|h<;>simp[h]),if_pos h9]
  unfold cM;rw[if_neg h13];split
  ·rfl
  ·split<;>rfl
 rw[if_neg (by simp only[not_or]at h9⊢;exact⟨h9.1,h9.2.1,h9.2.2,h12,h13⟩),if_neg h9]
 by_cases h14:n.op=14
 ·rw[if_pos h14,if_pos h14];exact aSm
 rw[if_neg h14,if_neg h14]
 by_cases h15:n.op=15
 ·rw[if_pos h15,if_pos h15];exact aHp _ _
 rw[if_neg h15,if_neg h15]
 by_cases h26:n.op=26
 ·rw[if_pos h26,if_pos h26];rfl
 rw[if_neg h26,if_neg h26]
 by_cases h27:n.op=27
 ·rw[if_pos h27,if_pos h27];unfold eY;cases fZ p left left.length with
  |zero=>rfl
  |succ k=>
   simp only
   unfold iZ;split
   ·rfl
   ·simp only
    rw[vS];unfold kO qJ;split
    ·rfl
    ·split<;>rfl
 rw[if_neg h27,if_neg h27]
 by_cases h16:n.op=16
 ·rw[if_pos (.inl h16),if_pos h16];unfold eN;rw[if_pos h16,h16];exact aNi
 by_cases h17:n.op=17
 ·rw[if_pos (.inr (.inl h17)),if_neg h16,if_pos h17];unfold eN;rw[if_neg h16];split
  ·rw[h17];exact nS
  ·rfl
 by_cases h18:n.op=18
 ·rw[if_pos (.inr (.inr h18)),if_neg h16,if_neg h17,if_pos h18];unfold eN;rw[if_neg h16];split
  ·rw[h18];exact nS
  ·rfl
 rw[if_neg (by simp only[not_or];exact⟨h16,h17,h18⟩),if_neg h16,if_neg h17,if_neg h18]
 by_cases h19:n.op=19
 ·rw[if_pos h19,if_pos h19];unfold eJ
  by_cases hk:dA w (aE f.vals 0) 5=true
  ·rw[if_pos hk,aKt hk];simp only[hk,if_true];exact aSn ha
  ·rw[if_neg hk];cases fH p w (aE f.vals 0) bO with
   |none=>simp only[hk];rfl
   |some b=>
    simp only
    split
    ·rfl
    ·exact aSn ha
 rw[if_neg h19,if_neg h19]
 by_cases h20:n.op=20
 ·rw[if_pos h20,if_pos h20];unfold gC;split
  ·split
   ·rfl
   ·split
    ·rfl
    ·exact nS
  ·rfl
 rw[if_neg h20,if_neg h20]
 by_cases h21:n.op=21
 ·rw[if_pos h21,if_pos h21];exact aNi
 rw[if_neg h21,if_neg h21]
 by_cases h22:n.op=22
 ·rw[if_pos (.inl h22),if_pos h22];unfold cE;split
  ·try rw[if_pos h22]
   split
   ·rfl
   ·rw[h22];exact nS
  ·rfl
 by_cases h23:n.op=23
 ·rw[if_pos (.inr h23),if_neg h22,if_pos h23];unfold cE;split
  ·try rw[if_neg h22]
   split
   ·rfl
   ·rw[h23];exact nS
  ·rfl
 rw[if_neg (by simp only[not_or];exact⟨h22,h23⟩),if_neg h22,if_neg h23]
 by_cases h24:n.op=24
 ·rw[if_pos (.inl h24),if_pos h24];unfold dG;rw[if_neg (by rw[h24];decide)]
  split
  ·rfl
  ·split
   ·rfl
   ·rw[h24];exact nS
 by_cases h25:n.op=25
 ·rw[if_pos (.inr h25),if_neg h24,if_pos h25];unfold dG;rw[if_pos h25];cases w.ins with
  |nil=>rfl
  |cons x xs=>
   simp only
   split
   ·rfl
   ·rw[h25];exact nS
 rw[if_neg (by simp only[not_or];exact⟨h24,h25⟩),if_neg h24,if_neg h25]
 exact nS
end Go.Abs
namespace Go.Proofs.YtmnchlhngpdffaaGreat
open Go.Abs Go.Proofs
set_option maxRecDepth 100000
set_option maxHeartbeats 4000000
def aE3 (s:Int):Val:= .ifc 249 (.agg [.i s])
theorem gY (s:Int):PC L 264 [.bool true,.i s] (.tup []):=by
 have hL:=at_ Tryz.func264
 conv at hL=>rhs;reduce
 refine aG hL rfl rfl ?_
 simp only[go_sem,kK]
theorem jZ (s:Int):PX L 264 [.bool false,.i s] (aE3 s):=by
 have hL:=at_ Tryz.func264
 conv at hL=>rhs;reduce
 refine aAi hL rfl rfl ?_
 simp only[go_sem,kK]
 refine cK 3 rfl ?_
 simp only[go_sem,bO5,bO3];exact⟨rfl,rfl⟩
theorem tD (n:Int):PC L 324 [.i n] (.agg [.i (mK n).kind,.i (mK n).n]):=by
 have hL:=at_ Tryz.func324
 conv at hL=>rhs;reduce
 refine aG hL rfl rfl ?_
 simp only[go_sem,kK,mK]
theorem aE4 (b:Bool):PC L 325 [.bool b] (.agg [.i (mR b).kind,.i (mR b).n]):=by
 have hL:=at_ Tryz.func325
 conv at hL=>rhs;reduce
 refine aG hL rfl rfl ?_
 cases b<;>simp only[go_sem,kK,mR,bO0,if_false]
theorem kC :PC L 326 [] (.agg [.i bO.kind,.i bO.n]):=by
 have hL:=at_ Tryz.func326
 conv at hL=>rhs;reduce
 refine aG hL rfl rfl ?_
 simp only[go_sem,kK,bO]
theorem xL (v:aD):PC L 169 [.agg [.i v.kind,.i v.n]] (.agg [.i (qU v).kind,.i (qU v).n]):=by
 have hL:=at_ Tryz.func169
 conv at hL=>rhs;reduce
 refine aG hL rfl rfl ?_
 obtain⟨k,n⟩:=v
 by_cases h4:k=4
 ·subst h4;simp only[go_sem,kK,qU,dO,true_or]
 ·have d4:decide (k=4)=false:=decide_eq_false h4
  by_cases h5:k=5
  ·subst h5;simp only[go_sem,kK,qU,dO,or_true]
  ·have d5:decide (k=5)=false:=decide_eq_false h5;simp only[go_sem,kK,qU,h4,h5,or_self,bO0,if_false]
def wM (what:Int)(e:lV):Val:=if what=2 then .ifc 244 (.agg [])else if what=0 then .ifc 255 (.agg [])else .ifc 247 (.agg [.i e.task,.i e.act,.i e.n,.i e.v.kind,.i e.v.n])
theorem aKv :PC L 122 [.ifc 255 (.agg [])] (.i 0):=by
 have hL:=at_ Tryz.func122
 conv at hL=>rhs;reduce
 refine aG hL rfl rfl ?_
 simp only[go_sem,kK]
theorem aNj :PC L 122 [.ifc 244 (.agg [])] (.i 2):=by
 have hL:=at_ Tryz.func122
 conv at hL=>rhs;reduce
 refine aG hL rfl rfl ?_
 simp only[go_sem,kK]
theorem aNk (l:List Val):PC L 122 [.ifc 247 (.agg l)] (.i 1):=by
 have hL:=at_ Tryz.func122
 conv at hL=>rhs;reduce
 refine aG hL rfl rfl ?_
 simp only[go_sem,kK]
def Old (k:Key)(cnt:Nat->Nat->Nat):Prop:=k.n=0/\ k.g<cnt 0 k.t
variable {cnt:Nat->Nat->Nat}{d:Nat}{k:Key}
theorem Old.ne (h:Old k cnt):k≠⟨0,d,cnt 0 d⟩:=by
 rintro rfl;exact Nat.lt_irrefl _ h.2
theorem Old.set (h:Old k cnt)(en:En)(d:Nat)(e:Option Ent):En.set en ⟨0,d,cnt 0 d⟩ e k=en k:=pZ h.ne
theorem Old.new (h:Old k cnt)(en:En)(d:Nat)(e:Option Ent):En.set en k e ⟨0,d,cnt 0 d⟩=en ⟨0,d,cnt 0 d⟩:=pZ h.ne.symm
theorem Old.eqF (h:Old k cnt)(d:Nat):((⟨0,d,cnt 0 d⟩:Key)=k)=False:=by simp only[eq_iff_iff,iff_false];exact h.ne.symm
theorem Old.eqF' (h:Old k cnt)(d:Nat):(k=(⟨0,d,cnt 0 d⟩:Key))=False:=by simp only[eq_iff_iff,iff_false];exact h.ne
variable {cnt':Nat->Nat->Nat}
theorem Old.up (h:Old k cnt)(hu: ∀t,cnt 0 t<=cnt' 0 t):Old k cnt':=⟨h.1,bPo h.2 (hu _)⟩
variable {e:Option Ent}{en:En}{k':Key}
theorem aK (h:k'≠k):En.set en k e k'=en k':=pZ h
variable {c:Nat->Nat->Nat}
theorem upS (h: ∀t,cnt 0 t<=c 0 t){a x:Nat}(hx:cnt 0 a<=x): ∀t,cnt 0 t<=aC c 0 a x 0 t:=by
 intro t;have:=h t
 by_cases ht:t=a
 ·subst ht;rw[aZ9];exact hx
 ·rw[bAa ht];exact this
theorem aN (cnt:Nat->Nat->Nat): ∀t,cnt 0 t<=cnt 0 t:=fun _=>bOy _
structure dU (kt kr:Key) (en:En) (cnt:Nat->Nat->Nat) (en':En) (cnt':Nat->Nat->Nat):Prop where
 old: ∀k,Old k cnt->k≠kt->k≠kr->en' k=en k
 up: ∀t,cnt 0 t<=cnt' 0 t
theorem dU.refl (kt kr:Key)(en:En)(cnt:Nat->Nat->Nat):dU kt kr en cnt en cnt:=⟨fun _ _ _ _=>rfl,fun _=>bOy _⟩
variable {cnt2:Nat->Nat->Nat}{en1 en2:En}{kr kt:Key}
theorem dU.trans {cnt1:Nat->Nat->Nat}(h:dU kt kr en cnt en1 cnt1)(k:dU kt kr en1 cnt1 en2 cnt2):dU kt kr en cnt en2 cnt2:=
 ⟨fun x hx a b=>(k.old x (hx.up h.up) a b).trans (h.old x hx a b),fun t=>bPb (h.up t) (k.up t)⟩
variable {en':En}{g:Nat}
theorem dU.loc (k:dU kt kr en cnt en' cnt')(hg:g<cnt 0 d)(ht:(⟨0,d,g⟩:Key)≠kt)(hr:(⟨0,d,g⟩:Key)≠kr):en' ⟨0,d,g⟩=en ⟨0,d,g⟩/\ Old ⟨0,d,g⟩ cnt':=
 ⟨k.old _ ⟨rfl,hg⟩ ht hr,rfl,bPo hg (k.up d)⟩
def iG (v:Val)(xs:List Val):Prop:=v= .fz xs \/v= .cl xs
variable {v:Val}{xs:List Val}
theorem iG.len (h:iG v xs):sI v=some xs.length:=by rcases h with rfl|rfl<;>rfl
theorem iG.elems (h:iG v xs)(en:En):iN en v=some (xs,[]):=by rcases h with rfl|rfl<;>rfl
theorem iG.fz (xs:List Val):iG (.fz xs) xs:= .inl rfl
theorem iG.cl (xs:List Val):iG (.cl xs) xs:= .inr rfl
theorem iG.one (h:iG v xs):v.one=true:=by rcases h with rfl|rfl<;>rfl
theorem iG.cells (h:iG v xs):v.cells=[v]:=by rcases h with rfl|rfl<;>rfl
structure TS (kt kr:Key) (en:En) (cnt:Nat->Nat->Nat) (p:aF) (w:aA) (a:Int) (left:List aB) (f:aB) (n:aJ) (back:List aD) (bv:Val):Prop where
 okt:Old kt cnt
 okr:Old kr cnt
 ne:kr≠kt
 ob:iG bv (back.map aD.enc)
 t:en kt=some (.box [.ptr kr 0,.i a,.fz (left.map aB.enc),.i f.node,.fz (f.env.map aD.enc),.fz (f.vals.map aD.enc),.i n.op,.i n.n,.is n.kids,.fz (n.pats.map Pat.enc),bv] false)
 r:en kr=some (.box [.fz (p.nodes.map aJ.enc),.is p.funs,.i p.main,.fz (p.cons.map cO.enc),.fz (w.objs.map aR.enc),.is w.tasks,.fz (w.outs.map bR.enc),.is w.ins,.i w.used] false)
variable {b0 back:List aD}{bv0 bv I O T U lv:Val}{w0 w:aA}{size t:Nat}{rs:List R}{ys cs f is n os ts us:List Val}{i a m u s:Int}{b:Bool}{K1 K2 K3 K4:List Key}{p:aF}{left:List aB}
section
variable {f:aB}{n:aJ}
theorem TS.to (h:TS kt kr en cnt p w a left f n back bv)(ht:en' kt=en kt)(hr:en' kr=en kr)(hu: ∀t,cnt 0 t<=cnt' 0 t):TS kt kr en' cnt' p w a left f n back bv:=
 ⟨h.okt.up hu,h.okr.up hu,h.ne,h.ob,by rw[ht];exact h.t,by rw[hr];exact h.r⟩
theorem bDr (h1:Old kt cnt)(h2:Old kr cnt)(h3:kr≠kt):(∀e d x,En.set e ⟨0,d,cnt 0 d⟩ x kt=e kt)/\ (∀e d x,En.set e ⟨0,d,cnt 0 d⟩ x kr=e kr)/\ (∀e d x,En.set e kt x ⟨0,d,cnt 0 d⟩=e ⟨0,d,cnt 0 d⟩)/\ (∀e d x,En.set e kr x ⟨0,d,cnt 0 d⟩=e ⟨0,d,cnt 0 d⟩)/\ (∀d,((⟨0,d,cnt 0 d⟩:Key)=kt)=False)/\ (∀d,((⟨0,d,cnt 0 d⟩:Key)=kr)=False)/\ (∀d,(kt=(⟨0,d,cnt 0 d⟩:Key))=False)/\ (∀d,(kr=(⟨0,d,cnt 0 d⟩:Key))=False)/\ (∀(e:En) x,En.set e kt x kr=e kr)/\ ∀(e:En) x,En.set e kr x kt=e kt:=
 ⟨h1.set,h2.set,h1.new,h2.new,h1.eqF,h2.eqF,h1.eqF',h2.eqF',fun _ _=>aK h3,fun _ _=>aK h3.symm⟩
theorem TS.pre (h:TS kt kr en cnt p w a left f n back bv):type_of%(bDr h.okt h.okr h.ne):=bDr h.okt h.okr h.ne
theorem TS.stay (h:TS kt kr en cnt p w a left f n back bv)(hk: ∀k,Old k cnt->en' k=en k)(hu: ∀t,cnt 0 t<=cnt' 0 t):(∃bv',TS kt kr en' cnt' p w a left f n back bv')/\ dU kt kr en cnt en' cnt':=
 ⟨⟨bv,h.to (hk _ h.okt) (hk _ h.okr) hu⟩,fun k ho _ _=>hk k ho,hu⟩
theorem TS.fin {l0:List aB}(h0:TS kt kr en cnt p w0 a l0 f n b0 bv0)(h:TS kt kr en' cnt' p w a left f n back bv)(k:dU kt kr en cnt en' cnt')(hk: ∀k,Old k cnt->Old k cnt'->en2 k=en' k)(hu: ∀t,cnt' 0 t<=cnt2 0 t):
  (∃bv',TS kt kr en2 cnt2 p w a left f n back bv')/\ dU kt kr en cnt en2 cnt2:=
 ⟨⟨bv,h.to (hk _ h0.okt h.okt) (hk _ h0.okr h.okr) hu⟩,fun x ho a b=>(hk x ho (ho.up k.up)).trans (k.old x ho a b),fun t=>bPb (k.up t) (hu t)⟩
theorem uO :jV false size en (.fz xs) none (some (.i (xs.length:Int))) (some (.i (xs.length:Int)))=some {v:= .cl xs}:=by
 simp[jV,aIw,tA (bOy _),uA]
theorem aCr (xs:List Val):PC L 265 [.fz xs] (.cl xs):=by
 have hL:=at_ Tryz.func265
 conv at hL=>rhs;reduce
 refine aG hL rfl rfl ?_
 simp only[go_sem,kK,uO]
theorem aA4 (xs:List Val):PC L 221 [.fz xs] (.cl xs):=by
 have hL:=at_ Tryz.func221
 conv at hL=>rhs;reduce
 refine aG hL rfl rfl ?_
 simp only[go_sem,kK,uO]
theorem aHq (xs:List Val):PC L 358 [.fz xs] (.cl xs):=by
 have hL:=at_ Tryz.func358
 conv at hL=>rhs;reduce
 refine aG hL rfl rfl ?_
 simp only[go_sem,kK,uO]
theorem aHr (xs:List Val):PC L 335 [.fz xs] (.cl xs):=by
 have hL:=at_ Tryz.func335
 conv at hL=>rhs;reduce
 refine aG hL rfl rfl ?_
 simp only[go_sem,kK,uO]
theorem aSo (xs:List Val):PC L 336 [.fz xs] (.cl xs):=by
 have hL:=at_ Tryz.func336
 conv at hL=>rhs;reduce
 refine aG hL rfl rfl ?_
 simp only[go_sem,kK,uO]
def aU6 (d g size:Nat)(xs ys:List Val)(rs:List R):Option Res:=
 if ys=[]then some {v:= .cl xs,rs}else some {v:= .bl ⟨0,d,g⟩ 0 (xs.length+ys.length),ws:=[.ent ⟨0,d,g⟩ (some (.blk size (xs++ys) (!xs.isEmpty)))],rs,bump:=true}
theorem uP (h1:cY size ys=true)(h2:cY size xs=true)(hl:xs.length+ys.length<=16777216):
  aMf d g en size (.cl xs) (some (ys,rs))=aU6 d g size xs ys rs:=by
 unfold aU6;split
 ·rename_i h;subst h;simp[aMf,fJ,cY]
 ·rename_i h;simp[aMf,fJ,h1,h,h2,hl]
theorem aKw :aU6 d g size xs [] rs=some {v:= .cl xs,rs}:=by simp[aU6]
theorem aB2 (h:ys≠[]):aU6 d g size xs ys rs=some {v:= .bl ⟨0,d,g⟩ 0 (xs.length+ys.length),ws:=[.ent ⟨0,d,g⟩ (some (.blk size (xs++ys) (!xs.isEmpty)))],rs,bump:=true}:=by simp[aU6,h]
theorem aSp {o:Nat}:cS en (.ptr k o)=some (.ptr k o,[]):=(rfl)
theorem aE5 {k:IntKind}:cS en (.int k i)=some (.int k i,[]):=(rfl)
theorem aPl :cS en (.fz xs)=some (.fz xs,[]):=(rfl)
theorem rB (h:iG v xs):cS en v=some (.fz xs,[]):=by rcases h with rfl|rfl<;>rfl
theorem sS {n:Nat}(h:en ⟨0,t,g⟩=some (.blk size xs b))(hn:n=xs.length):cS en (.bl ⟨0,t,g⟩ 0 n)=some (.fz xs,[⟨0,t,g⟩]):=by
 subst hn;simp[cS,snapD,h,Val.wk0,aJy]
theorem aE6 {rs:List (Val×List Key)}(h:en k=some (.box cs false))(hc:cU (cS en) cs=some rs)(hk:(rs.flatMap (·.2)).contains k=false):
  tZ en k=some ((W.applyAll en ((rs.flatMap (·.2)).map .frz)).set k (some (.box (rs.map (·.1)) false))):=by
 simp only[tZ,h,hc,hk,bO0,if_false]
theorem aKx (h:tZ en k=some en1):oA (.ptr k 0) [[]] en=some en1:=by simp only[oA,aQj,h]
theorem bBi (hk:en k=some (.box (.ptr k' 0::cs) b))(h:tZ en k'=some en1):oA (.ptr k 0) [[0]] en=some en1:=by simp only[oA,aQj,hk,bRt,h]
theorem bBj {o:Int}{F:Val}{e v ks ps bs:List Val}{K:List Key}(h:en kt=some (.box [.ptr kr 0,.i a,F,.i i,.fz e,.fz v,.i o,.i m,.fz ks,.fz ps,bv] false))(hF:cS en F=some (.fz xs,K))(hb:iG bv bs)(hk:kt∉K):
  oA (.ptr kt 0) [[]] en=some ((W.applyAll en (K.map .frz)).set kt (some (.box [.ptr kr 0,.i a,.fz xs,.i i,.fz e,.fz v,.i o,.i m,.fz ks,.fz ps,.fz bs] false))):=by
 have:=aE6 (rs:=[(.ptr kr 0,[]),(.i a,[]),(.fz xs,K),(.i i,[]),(.fz e,[]),(.fz v,[]),(.i o,[]),(.i m,[]),(.fz ks,[]),(.fz ps,[]),(.fz bs,[])]) h (by simp only[aBy,aEk,aSp,aE5,aPl,hF,rB hb]) (by simpa using hk)
 simp only[bRe,bQy,bPx,bP1,bPw,bPf]at this;exact aKx this
theorem aU7 {n f c:List Val}(ht:en kt=some (.box (.ptr kr 0::cs) b))(h:en kr=some (.box [.fz n,.fz f,.i m,.fz c,O,T,U,I,.i u] false))
  (hO:cS en O=some (.fz os,K1)) (hT:cS en T=some (.fz ts,K2)) (hU:cS en U=some (.fz us,K3)) (hI:cS en I=some (.fz is,K4)) (hk:kr∉K1++(K2++(K3++K4))):
  oA (.ptr kt 0) [[0]] en=some ((W.applyAll en ((K1++(K2++(K3++K4))).map .frz)).set kr (some (.box [.fz n,.fz f,.i m,.fz c,.fz os,.fz ts,.fz us,.fz is,.i u] false))):=by
 have:=aE6 (rs:=[(.fz n,[]),(.fz f,[]),(.i m,[]),(.fz c,[]),(.fz os,K1),(.fz ts,K2),(.fz us,K3),(.fz is,K4),(.i u,[])]) h (by simp only[aBy,aEk,aE5,aPl,hO,hT,hU,hI]) (by simpa using hk)
 simp only[bRe,bQy,bPx,bP1,bPw,bPf]at this;exact bBi ht this
theorem aSq {n f c:List Val}(h:en kr=some (.box [.fz n,.fz f,.i m,.fz c,O,T,U,I,.i u] false))
  (hO:cS en O=some (.fz os,K1)) (hT:cS en T=some (.fz ts,K2)) (hU:cS en U=some (.fz us,K3)) (hI:cS en I=some (.fz is,K4)) (hk:kr∉K1++(K2++(K3++K4))):
  oA (.ptr kr 0) [[]] en=some ((W.applyAll en ((K1++(K2++(K3++K4))).map .frz)).set kr (some (.box [.fz n,.fz f,.i m,.fz c,.fz os,.fz ts,.fz us,.fz is,.i u] false))):=by
 have:=aE6 (rs:=[(.fz n,[]),(.fz f,[]),(.i m,[]),(.fz c,[]),(.fz os,K1),(.fz ts,K2),(.fz us,K3),(.fz is,K4),(.i u,[])]) h (by simp only[aBy,aEk,aE5,aPl,hO,hT,hU,hI]) (by simpa using hk)
 simp only[bRe,bQy,bPx,bP1,bPw,bPf]at this;exact aKx this
theorem pI (h:k'≠k):(W.frz k).apply en k'=en k':=by
 simp only[W.apply];cases en k with
 |none=>rfl
 |some e=>exact pZ h
theorem aE7 (h:TS kt kr en cnt p w a left f n back bv){l:List aB}(hl:iG lv (l.map aB.enc))(hc:left.length+l.length<=40):
  WIn L (.fn 220 [] []) [.ptr kt 0,lv] en cnt fun v en' cnt'=>v= .tup []/\ (∃bv',TS kt kr en' cnt' p w a (left++l) f n back bv')/\ dU kt kr en cnt en' cnt':=by
 have hw:IntKind.i64.wrap ((left.length:Int)+(l.length:Int))=((left.length+l.length:Nat):Int):=by rw[aW (by omega)];omega
 have d:decide (((left.length+l.length:Nat):Int)<=40)=true:=decide_eq_true (by omega)
 have hlen:sI lv=some l.length:=by rw[hl.len,bOz]
 have hel:=hl.elems;have s1:=h.okt.set;have s2:=h.okr.set;have n1:=h.okt.new;have hl16:left.length+l.length<=16777216:=by omega
 have ht:=h.t;have hr:=h.r;have hb:=h.ob;have hL:=at_ Tryz.func220
 conv at hL=>rhs;reduce
 refine rH hL rfl rfl ?_
 simp only[go_sem,kK]
 refine bL ?_
 simp only[go_sem,ht,hlen,bOz,hw,d,(gY _).ret,(aCr _).ret,bT,eG,hel,uP,jA,hl16]
 by_cases hl0:l=[]
 ·subst hl0;simp only[go_sem,bPf,aKw,qA,kZ,ht];rw[bBj (K:=[]) cH rfl hb (by simp)]
  simp only[bPf,fL];exact⟨⟨_,h.okt,h.okr,h.ne,.inl rfl,cH,by rw[aK h.ne,aK h.ne];exact hr⟩,fun k hk a b=>by rw[aK a,aK a],fun _=>bOy _⟩
 ·have hne:l.map aB.enc≠[]:=by simpa using hl0
  have nk:kt≠⟨0,21,cnt 0 21⟩:=h.okt.ne;have nr:kr≠⟨0,21,cnt 0 21⟩:=h.okr.ne;simp only[go_sem,aB2 hne,uM,nC,s1,ht,bOz];rw[bBj (K:=[⟨0,21,cnt 0 21⟩]) (xs:=(left++l).map aB.enc) cH (sS (by rw[n1];exact cH.trans (by rw[<-bQg])) (by simp)) hb (by simpa using nk)]
  simp only[bPw,bPf,kH,fL];have hu:=upS (aN cnt) (a:=21) (x:=cnt 0 21+1) (by omega)
  refine⟨⟨_,h.okt.up hu,h.okr.up hu,h.ne,.inl rfl,cH,?_⟩,fun k hk a b=>?_,hu⟩
  ·rw[aK h.ne,pI nr,aK h.ne,s2];exact hr
  ·rw[aK a,pI hk.ne,aK a,hk.set]
def RB (kr:Key)(en:En)(p:aF):Prop:= ∃O T U I u,en kr=some (.box [.fz (p.nodes.map aJ.enc),.is p.funs,.i p.main,.fz (p.cons.map cO.enc),O,T,U,I,u] false)
theorem TS.rb (h:TS kt kr en cnt p w a left f n back bv):RB kr en p:=⟨_,_,_,_,_,h.r⟩
structure oZ (kt kr:Key) (en:En) (cnt:Nat->Nat->Nat) (p:aF) (s:Int) (v:Val) (en':En) (cnt':Nat->Nat->Nat):Prop where
 v:v=aE3 s
 keep:dU kt kr en cnt en' cnt'
 rb:RB kr en' p
theorem aKy (h:TS kt kr en cnt p w a left f n back bv){l:List aB}(hl:iG lv (l.map aB.enc))(hc:40<left.length+l.length)(hs:left.length+l.length<=1000000):
  wF L 220 [.ptr kt 0,lv] en cnt (oZ kt kr en cnt p 4):=by
 have hw:IntKind.i64.wrap ((left.length:Int)+(l.length:Int))=((left.length+l.length:Nat):Int):=by rw[aW (by omega)];omega
 have d:decide (((left.length+l.length:Nat):Int)<=40)=false:=decide_eq_false (by omega)
 have hlen:sI lv=some l.length:=by rw[hl.len,bOz]
 have ht:=h.t;have hL:=at_ Tryz.func220
 conv at hL=>rhs;reduce
 refine cA hL rfl rfl ?_
 simp only[go_sem,kK]
 refine cK 9 rfl ?_
 simp only[go_sem,bO5,bO3,ht,hlen,bOz,hw,d,(jZ _).ret];exact⟨rfl,dU.refl _ _ _ _,h.rb⟩
theorem TS.fell {l0:List aB}(h0:TS kt kr en cnt p w0 a l0 f n b0 bv0)(h:TS kt kr en' cnt' p w a left f n back bv)(k:dU kt kr en cnt en' cnt')(hk: ∀k,Old k cnt->Old k cnt'->en2 k=en' k)(hu: ∀t,cnt' 0 t<=cnt2 0 t):
  oZ kt kr en cnt p s (aE3 s) en2 cnt2:=by
 obtain⟨⟨bv3,h3⟩,k3⟩:=h0.fin h k hk hu;exact⟨rfl,k3,h3.rb⟩
theorem TS.fell0 (h:TS kt kr en cnt p w a left f n back bv)(hk: ∀k,Old k cnt->en' k=en k)(hu: ∀t,cnt 0 t<=cnt' 0 t):oZ kt kr en cnt p s (aE3 s) en' cnt':=by
 obtain⟨⟨bv3,h3⟩,k3⟩:=h.stay hk hu;exact⟨rfl,k3,h3.rb⟩
theorem oZ.then (k:dU kt kr en cnt en' cnt')(h:oZ kt kr en' cnt' p s v en2 cnt2):oZ kt kr en cnt p s v en2 cnt2:=⟨h.v,k.trans h.keep,h.rb⟩
end
variable {V r ev:Val}{x:Int}{E:En}{w':aA}{j:Nat}{env l:List aD}
section
variable {f:aB}{n:aJ}
def aPm :Val:= .ifc 255 (.agg [])
def aWc :Val:= .ifc 244 (.agg [])
def aHs (e:lV):Val:= .ifc 247 (.agg [.i e.task,.i e.act,.i e.n,.i e.v.kind,.i e.v.n])
theorem iO (h:TS kt kr en cnt p w a left f n back bv)(v:aD):
  WIn L (.fn 323 [] []) [.ptr kt 0,.agg [.i v.kind,.i v.n]] en cnt fun r en' cnt'=>r=aPm/\ (∃bv',TS kt kr en' cnt' p w a left f n [v] bv')/\ dU kt kr en cnt en' cnt':=by
 have H:=h.pre;have hn:=h.ne;have ht:=h.t;have hr:=h.r;have s2:=h.okr.set;have hL:=at_ Tryz.func323
 conv at hL=>rhs;reduce
 refine bD hL rfl rfl ?_
 simp only[go_sem,kK,ht,H,kB];have hu:=upS (aN cnt) (a:=3) (x:=cnt 0 3+1) (by omega)
 exact⟨rfl,⟨_,h.okt.up hu,h.okr.up hu,hn,.inr rfl,cH,by rw[aK hn,s2];exact hr⟩,fun k hk a b=>by simp only[hk.set,aK a],hu⟩
theorem qK (h:TS kt kr en cnt p w a left f n back bv)(v e:aD):
  WIn L (.fn 333 [] []) [.ptr kt 0,.agg [.i v.kind,.i v.n],.agg [.i e.kind,.i e.n]] en cnt fun r en' cnt'=>r=aHs ⟨a,n.op,if n.op=24 then n.n else 0,qU e⟩/\ (∃bv',TS kt kr en' cnt' p w a left f n [v] bv')/\ dU kt kr en cnt en' cnt':=by
 have H:=h.pre;have hn:=h.ne;have ht:=h.t;have hr:=h.r;have hL:=at_ Tryz.func333
 conv at hL=>rhs;reduce
 refine bD hL rfl rfl ?_
 simp only[go_sem,kK,ht,H,kB]
 refine aI ?_
 by_cases h24:n.op=24
 ·have d24:decide (n.op=24)=true:=decide_eq_true h24;simp only[go_sem,kK,(xL _).ret,d24,H,kA,kF];have hu: ∀t,cnt 0 t<=aC (aC (aC cnt 0 4 (cnt 0 4+1)) 0 5 (cnt 0 5+1)) 0 7 (cnt 0 7+1) 0 t:=(by(repeat refine upS ?_ (by omega));exact aN _)
  exact⟨by simp only[if_pos h24,aHs],⟨_,h.okt.up hu,h.okr.up hu,hn,.inr rfl,by simp only[H,cH];rfl,by simp only[H];exact hr⟩,fun k hk a b=>by simp only[hk.set,aK a],hu⟩
 ·have d24:decide (n.op=24)=false:=decide_eq_false h24;simp only[go_sem,kK,(xL _).ret,d24,H,kA,kF];have hu: ∀t,cnt 0 t<=aC (aC (aC cnt 0 4 (cnt 0 4+1)) 0 5 (cnt 0 5+1)) 0 7 (cnt 0 7+1) 0 t:=(by(repeat refine upS ?_ (by omega));exact aN _)
  exact⟨by simp only[if_neg h24,aHs],⟨_,h.okt.up hu,h.okr.up hu,hn,.inr rfl,by simp only[H,cH];rfl,by simp only[H];exact hr⟩,fun k hk a b=>by simp only[hk.set,aK a],hu⟩
theorem aNl {F1:Val}(ht:en kt=some (.box [.ptr kr 0,.i a,F1,.i f.node,.fz (f.env.map aD.enc),.fz (f.vals.map aD.enc),.i n.op,.i n.n,.is n.kids,.fz (n.pats.map Pat.enc),bv] false))(ok:Old kt cnt)(v e:aD):
  WIn L (.fn 333 [] []) [.ptr kt 0,.agg [.i v.kind,.i v.n],.agg [.i e.kind,.i e.n]] en cnt fun r en' cnt'=>r=aHs ⟨a,n.op,if n.op=24 then n.n else 0,qU e⟩/\
   en' kt=some (.box [.ptr kr 0,.i a,F1,.i f.node,.fz (f.env.map aD.enc),.fz (f.vals.map aD.enc),.i n.op,.i n.n,.is n.kids,.fz (n.pats.map Pat.enc),.cl [.agg [.i v.kind,.i v.n]]] false)/\ (∀k,Old k cnt->k≠kt->en' k=en k)/\ ∀t,cnt 0 t<=cnt' 0 t:=by
 have s1:=ok.set;have n1:=ok.new;have m1:=ok.eqF;have o1:=ok.eqF';have hL:=at_ Tryz.func333
 conv at hL=>rhs;reduce
 refine bD hL rfl rfl ?_
 simp only[go_sem,kK,ht,s1,kB]
 refine aI ?_
 by_cases h24:n.op=24
 ·have d24:decide (n.op=24)=true:=decide_eq_true h24;simp only[go_sem,kK,(xL _).ret,d24,s1,n1,m1,kA,kF];exact⟨by simp only[if_pos h24,aHs],fun k hk a=>by simp only[hk.set,aK a],(by(repeat refine upS ?_ (by omega));exact aN _)⟩
 ·have d24:decide (n.op=24)=false:=decide_eq_false h24;simp only[go_sem,kK,(xL _).ret,d24,s1,n1,m1,kA,kF];exact⟨by simp only[if_neg h24,aHs],fun k hk a=>by simp only[hk.set,aK a],(by(repeat refine upS ?_ (by omega));exact aN _)⟩
theorem rT {y:Val}:aU6 d g size xs [y] rs=some {v:= .bl ⟨0,d,g⟩ 0 (xs.length+1),ws:=[.ent ⟨0,d,g⟩ (some (.blk size (xs++[y]) (!xs.isEmpty)))],rs,bump:=true}:=aB2 (by simp)
theorem aWd {y:Int}{FV:Val}:cY 4 [.agg [.i x,.i y,V,FV]]=true:=(rfl)
theorem vV {cnt:Nat->Nat->Nat}{k:Key}(h:Old k cnt): ∀{K:List Key},(∀x∈K,∃d,x=⟨0,d,cnt 0 d⟩)-> ∀(E:En),W.applyAll E (K.map .frz) k=E k
 |[],_,_=>rfl
 |x::K,hK,E=>by
  have:W.applyAll E ((x::K).map .frz)=W.applyAll ((W.frz x).apply E) (K.map .frz):=rfl;rw[this,vV h fun y hy=>hK y (bQz _ hy)]
  obtain⟨d,rfl⟩:=hK x (bR7 ..);exact pI h.ne
theorem bFi (h:TS kt kr en cnt p w a left f n back bv)(ht:E kt=en kt)
  (hr:E kr=some (.box [.fz (p.nodes.map aJ.enc),.is p.funs,.i p.main,.fz (p.cons.map cO.enc),O,T,U,I,.i w'.used] false))
  (hO:cS E O=some (.fz (w'.objs.map aR.enc),K1)) (hT:cS E T=some (.is w'.tasks,K2)) (hU:cS E U=some (.fz (w'.outs.map bR.enc),K3)) (hI:cS E I=some (.is w'.ins,K4))
  (hK: ∀k∈K1++(K2++(K3++K4)),∃d,k=⟨0,d,cnt 0 d⟩) (hk: ∀k,Old k cnt->k≠kt->k≠kr->E k=en k) (hu: ∀t,cnt 0 t<=c 0 t) (hv:v=r):
  match oA (.ptr kt 0) [[0]] E with
  |some en'=>v=r/\ (∃bv',TS kt kr en' c p w' a left f n back bv')/\ dU kt kr en cnt en' c
  |none=>False:=by
 have hkn:kr∉K1++(K2++(K3++K4)):=fun hm=>by obtain⟨d,e⟩:=hK kr hm;exact h.okr.ne e
 rw[aU7 (ht.trans h.t) hr hO hT hU hI hkn]
 refine⟨hv,⟨bv,h.okt.up hu,h.okr.up hu,h.ne,h.ob,?_,cH⟩,fun k ho k1 k2=>?_,hu⟩
 ·rw[aK h.ne.symm,vV h.okt hK,ht];exact h.t
 ·rw[aK k2,vV ho hK];exact hk k ho k1 k2
theorem bBk (h:TS kt kr en cnt p w a left f n back bv)(ht:E kt=en kt)
  (hr:E kr=some (.box [.fz (p.nodes.map aJ.enc),.is p.funs,.i p.main,.fz (p.cons.map cO.enc),O,T,U,I,.i w'.used] false))
  (hO:cS E O=some (.fz (w'.objs.map aR.enc),K1)) (hT:cS E T=some (.is w'.tasks,K2)) (hU:cS E U=some (.fz (w'.outs.map bR.enc),K3)) (hI:cS E I=some (.is w'.ins,K4))
  (hK: ∀k∈K1++(K2++(K3++K4)),∃d,k=⟨0,d,cnt 0 d⟩) (hk: ∀k,Old k cnt->k≠kt->k≠kr->E k=en k) (hu: ∀t,cnt 0 t<=c 0 t):
  match oA (.ptr kt 0) [[0]] E with
  |some en'=>(∃bv',TS kt kr en' c p w' a left f n back bv')/\ dU kt kr en cnt en' c
  |none=>False:=by
 have:=bFi h ht hr hO hT hU hI hK hk hu (rfl:Val.nilp=Val.nilp)
 split at this
 ·exact this.2
 ·exact this
theorem aB3 (d:Nat): ∀k∈[(⟨0,d,cnt 0 d⟩:Key)]++([]++([]++[])),∃d,k=⟨0,d,cnt 0 d⟩:=by simp
theorem rC (h:TS kt kr en cnt p w a left f n back bv){o:aR}{FV:Val}(hV:iG V (o.vals.map aD.enc))(hF:iG FV (o.frames.map aB.enc))(hc:w.objs.length<120):
  WIn L (.fn 327 [] []) [.ptr kt 0,.agg [.i o.form,.i o.n,V,FV]] en cnt fun r en' cnt'=>r= .agg [.i (dO w.objs.length).kind,.i (dO w.objs.length).n]/\ (∃bv',TS kt kr en' cnt' p (eF w o) a left f n back bv')/\ dU kt kr en cnt en' cnt':=by
 have H:=h.pre;have ht:=h.t;have hr:=h.r;have d:decide ((w.objs.length:Int)<120)=true:=decide_eq_true (by omega)
 have hl:w.objs.length+1<=16777216:=by omega
 have hw:IntKind.i64.wrap (((w.objs.length+1:Nat):Int)-1)=(w.objs.length:Int):=by rw[aW (by omega)];omega
 have hA:w.objs.map aR.enc++[.agg [.i o.form,.i o.n,.fz (o.vals.map aD.enc),.fz (o.frames.map aB.enc)]]=(eF w o).objs.map aR.enc:=by simp[eF,aR.enc]
 have hAl:w.objs.length+1=((eF w o).objs.map aR.enc).length:=by simp[eF]
 have hL:=at_ Tryz.func327
 conv at hL=>rhs;reduce
 refine rH hL rfl rfl ?_
 simp only[go_sem,kK]
 refine bL ?_
 simp only[go_sem,ht,hr,H,bOz,d,(gY _).ret]
 refine aI ?_
 rcases hV with rfl|rfl<;>rcases hF with rfl|rfl<;>
 (simp only[go_sem,ht,hr,H,kB,bOz,(aHq _).ret,bT,eG,uP,yT,aWd,hl,rT,hw,hA,kA,kF]
  exact bFi h (w':=eF w o) (by simp only[H]) (by simp only[H,cH];rfl) (sS (by simp only[go_sem,H];rfl) hAl) rfl rfl rfl (aB3 31) fun k hk a b=>by simp only[hk.set,aK b] (by(repeat refine upS ?_ (by omega));exact aN _) rfl)
theorem pB (h:TS kt kr en cnt p w a left f n back bv){o:aR}{FV:Val}(hc:120<=w.objs.length)(hs:w.objs.length<=1000000):
  wF L 327 [.ptr kt 0,.agg [.i o.form,.i o.n,V,FV]] en cnt (oZ kt kr en cnt p 4):=by
 have H:=h.pre;have ht:=h.t;have hr:=h.r;have d:decide ((w.objs.length:Int)<120)=false:=decide_eq_false (by omega)
 have hL:=at_ Tryz.func327
 conv at hL=>rhs;reduce
 refine cA hL rfl rfl ?_
 simp only[go_sem,kK]
 refine cK 10 rfl ?_
 simp only[go_sem,bO5,bO3,ht,hr,H,bOz,d,(jZ _).ret];exact⟨rfl,⟨fun k hk a b=>by simp only[hk.set],(by(repeat refine upS ?_ (by omega));exact aN _)⟩,_,_,_,_,_,by simp only[H];exact hr⟩
theorem yU (xs:List Val)(h1:cY 4 xs=true)(hl:xs.length<=16777216):PC L 219 [.fz xs] (sH 4 xs):=by
 cases xs with
 |nil=>
  have hL:=at_ Tryz.func219
  conv at hL=>rhs;reduce
  refine aJv hL rfl rfl (.inl rfl) (pY ?_) (pY ?_)
  ·simp only[go_sem,kK,wL];rfl
  ·simp only[go_sem,kK,wL]
   refine rR (b:=false) (by simp only[go_sem]) (by simp only[go_sem]) ?_
   simp only[go_sem];rfl
 |cons x xs=>
  have hL:=at_ Tryz.func219
  conv at hL=>rhs;reduce
  refine aG hL rfl rfl ?_
  simp only[go_sem,kK,aEz]
  refine qH (by simp only[go_sem]) (by simp only[go_sem]) h1 hl ?_
  simp only[go_sem];rfl
theorem aKz (h:TS kt kr en cnt p w a left f n back bv){o:aR}{FV:Val}(hV:iG V (o.vals.map aD.enc))(hF:iG FV (o.frames.map aB.enc))(hj:j<w.objs.length)(hs:w.objs.length<=1000000):
  WIn L (.fn 334 [] []) [.ptr kt 0,.i j,.agg [.i o.form,.i o.n,V,FV]] en cnt fun r en' cnt'=>r= .tup []/\ (∃bv',TS kt kr en' cnt' p (eC w j o) a left f n back bv')/\ dU kt kr en cnt en' cnt':=by
 have H:=h.pre;have ht:=h.t;have hr:=h.r;have hl:(w.objs.map aR.enc).length<=16777216:=by rw[bOz];omega
 have hC:=yU (w.objs.map aR.enc) (yT _) hl;have hne:w.objs.map aR.enc≠[]:=by intro he;have h0:=congrArg List.length he;simp at h0;rw[h0]at hj;simp at hj
 rw[pK hne]at hC;have hget:(w.objs.map aR.enc)[j]?=some (aR.enc w.objs[j]):=by simp[hj]
 have hS:(w.objs.map aR.enc).set j (.agg [.i o.form,.i o.n,.fz (o.vals.map aD.enc),.fz (o.frames.map aB.enc)])=(eC w j o).objs.map aR.enc:=by simp[eC,bQ8,aR.enc]
 have hSl:w.objs.length=((eC w j o).objs.map aR.enc).length:=by simp[eC]
 have hL:=at_ Tryz.func334
 conv at hL=>rhs;reduce
 refine rH hL rfl rfl ?_
 simp only[go_sem,kK]
 refine aI ?_
 simp only[go_sem,ht,hr,H,kB,hC.ret,kA,kF];rcases hV with rfl|rfl<;>rcases hF with rfl|rfl<;>
 (simp only[go_sem,H,hget,hj,eV,bRg,bPz,hS]
  exact bBk h (w':=eC w j o) (by simp only[H]) (by simp only[H,cH];rfl) (sS cH hSl) rfl rfl rfl (aB3 18) fun k hk a b=>by simp only[hk.set,aK b] (by(repeat refine upS ?_ (by omega));exact aN _))
theorem aU8 (h:TS kt kr en cnt p w a left f n back bv){o:aR}(hb:en ⟨0,t,g⟩=some (.blk 2 (o.vals.map aD.enc) b))(hg:g<cnt 0 t){FV:Val}(hF:iG FV (o.frames.map aB.enc))(hj:j<w.objs.length)(hs:w.objs.length<=1000000):
  WIn L (.fn 334 [] []) [.ptr kt 0,.i j,.agg [.i o.form,.i o.n,.bl ⟨0,t,g⟩ 0 o.vals.length,FV]] en cnt fun r en' cnt'=>r= .tup []/\ (∃bv',TS kt kr en' cnt' p (eC w j o) a left f n back bv')/\
   (∀k,Old k cnt->k≠kt->k≠kr->k≠⟨0,t,g⟩->en' k=en k)/\ ∀t,cnt 0 t<=cnt' 0 t:=by
 have s1:=h.okt.set;have s2:=h.okr.set;have n1:=h.okt.new;have n2:=h.okr.new;have hn:=h.ne;have ht:=h.t;have hr:=h.r;have m1:=h.okt.eqF;have m2:=h.okr.eqF;have o1:=h.okt.eqF';have o2:=h.okr.eqF';have x1: ∀(en:En) (e:Option Ent),En.set en kt e kr=en kr:=fun _ _=>aK hn;have x2: ∀(en:En) (e:Option Ent),En.set en kr e kt=en kt:=fun _ _=>aK hn.symm
 have hl:(w.objs.map aR.enc).length<=16777216:=by rw[bOz];omega
 have hC:=yU (w.objs.map aR.enc) (yT _) hl;have hne:w.objs.map aR.enc≠[]:=by intro he;have h0:=congrArg List.length he;simp at h0;rw[h0]at hj;simp at hj
 rw[pK hne]at hC;have hget:(w.objs.map aR.enc)[j]?=some (aR.enc w.objs[j]):=by simp[hj]
 have hS:(w.objs.map aR.enc).set j (.agg [.i o.form,.i o.n,.fz (o.vals.map aD.enc),.fz (o.frames.map aB.enc)])=(eC w j o).objs.map aR.enc:=by simp[eC,bQ8,aR.enc]
 have hSl:w.objs.length=((eC w j o).objs.map aR.enc).length:=by simp[eC]
 have hT:List.take o.vals.length (o.vals.map aD.enc)=o.vals.map aD.enc:=by rw[bPi (by simp)]
 have hob:Old ⟨0,t,g⟩ cnt:=⟨rfl,hg⟩;have b1:=hob.set;have bn:(⟨0,t,g⟩:Key)≠⟨0,18,cnt 0 18⟩:=hob.ne;have bF:((⟨0,t,g⟩:Key)=⟨0,18,cnt 0 18⟩)=False:=by simp only[eq_iff_iff,iff_false];exact bn
 have q1:(⟨0,t,g⟩:Key)≠kr:=by rintro rfl;rw[hr]at hb;cases hb
 have q2:(⟨0,t,g⟩:Key)≠kt:=by rintro rfl;rw[ht]at hb;cases hb
 have b2: ∀(en:En) (e:Option Ent),En.set en kr e ⟨0,t,g⟩=en ⟨0,t,g⟩:=fun _ _=>aK q1
 have b3: ∀(en:En) (e:Option Ent),En.set en ⟨0,t,g⟩ e ⟨0,18,cnt 0 18⟩=en ⟨0,18,cnt 0 18⟩:=fun _ _=>aK bn.symm
 have b4: ∀(en:En) (e:Option Ent),En.set en ⟨0,t,g⟩ e kr=en kr:=fun _ _=>aK q1.symm
 have b5: ∀(en:En) (e:Option Ent),En.set en ⟨0,t,g⟩ e kt=en kt:=fun _ _=>aK q2.symm
 have hL:=at_ Tryz.func334
 conv at hL=>rhs;reduce
 refine rH hL rfl rfl ?_
 simp only[go_sem,kK]
 refine aI ?_
 simp only[go_sem,ht,hr,s1,s2,n2,m1,x2,kB,hC.ret,kA,kF];rcases hF with rfl|rfl<;>
 (simp only[go_sem,n2,hget,hj,b1,b2,b3,bF,hb,bOz,eV,bRg,bPz,bOy,W.apply,Ent.freeze,decide_not,bPh,decide_false,hT,hS]
  have hu: ∀t,cnt 0 t<=aC (aC cnt 0 5 (cnt 0 5+1)) 0 18 (cnt 0 18+1) 0 t:=(by(repeat refine upS ?_ (by omega));exact aN _)
  rw[aU7 (K1:=[⟨0,18,cnt 0 18⟩]) (K2:=[]) (K3:=[]) (K4:=[]) (os:=(eC w j o).objs.map aR.enc) (by simp only[s1,b5,x2];exact ht) (by simp only[s2,b4,cH];rfl) (sS cH hSl) rfl rfl rfl (by simp[o2])]
  refine⟨⟨bv,h.okt.up hu,h.okr.up hu,hn,h.ob,?_,cH⟩,fun k hk k1 k2 k3=>?_,hu⟩
  ·rw[x2,vV h.okt (aB3 18)];simp only[s1,b5,x2];exact ht
  ·rw[aK k2,vV hk (aB3 18),hk.set,aK k3,aK k2,hk.set,hk.set])
theorem aE8 (env l:List aD)(hc:env.length+l.length<=30):PC L 330 [.fz (env.map aD.enc),.fz (l.map aD.enc)] (.fz ((env++l).map aD.enc)):=by
 have hw:IntKind.i64.wrap ((env.length:Int)+(l.length:Int))=((env.length+l.length:Nat):Int):=by rw[aW (by omega)];omega
 have d:decide (((env.length+l.length:Nat):Int)<=30)=true:=decide_eq_true (by omega)
 have hl:env.length+l.length<=16777216:=by omega
 have hL:=at_ Tryz.func330
 conv at hL=>rhs;reduce
 refine aG hL rfl rfl ?_
 simp only[go_sem,kK]
 refine bL ?_
 simp only[go_sem,hw,d,bOz,(gY _).ret,(aA4 _).ret,bT,eG,uP,sR,hl]
 by_cases h0:l=[]
 ·subst h0;simp only[go_sem,bPf,aKw,bPx]
 ·have hne:l.map aD.enc≠[]:=by simpa using h0
  simp only[go_sem,aB2 hne,bOz,bPg,bOy];rw[<-bQg,bPi (by simp)]
theorem aIp (env l:List aD)(hc:30<env.length+l.length)(hs:env.length+l.length<=1000000):PX L 330 [.fz (env.map aD.enc),.fz (l.map aD.enc)] (aE3 4):=by
 have hw:IntKind.i64.wrap ((env.length:Int)+(l.length:Int))=((env.length+l.length:Nat):Int):=by rw[aW (by omega)];omega
 have d:decide (((env.length+l.length:Nat):Int)<=30)=false:=decide_eq_false (by omega)
 have hL:=at_ Tryz.func330
 conv at hL=>rhs;reduce
 refine aAi hL rfl rfl ?_
 simp only[go_sem,kK]
 refine cK 6 rfl ?_
 simp only[go_sem,bO5,bO3,hw,d,bOz,(jZ _).ret]
theorem xM (h:TS kt kr en cnt p w a left f n back bv){i:Nat}(hi:i<n.kids.length)(hev:iG ev (env.map aD.enc))(hc:left.length<40):
  WIn L (.fn 223 [] []) [.ptr kt 0,.i i,ev] en cnt fun r en' cnt'=>r=aPm/\ (∃bv',TS kt kr en' cnt' p w a (left++[⟨n.kids.getD i 0,env,[]⟩]) f n back bv')/\ dU kt kr en cnt en' cnt':=by
 have H:=h.pre;have ht:=h.t;have hg:n.kids.getD i 0=n.kids[i]:=by simp[bO2,hi]
 have hL:=at_ Tryz.func223
 conv at hL=>rhs;reduce
 refine bD hL rfl rfl ?_
 simp only[go_sem,kK]
 refine bL ?_
 rcases hev with rfl|rfl<;>
 (simp only[go_sem,ht,kB,hi]
  refine(aE7 h (l:=[⟨n.kids.getD i 0,env,[]⟩]) (.inr (by rw[hg];rfl)) (by simp only[bO7,bPe];omega)).mono ?_
  rintro v e1 c1 ⟨_,t1,k1⟩
  exact⟨rfl,t1,k1⟩)
theorem xN (h:TS kt kr en cnt p w a left f n back bv){i:Nat}(hi:i<n.kids.length)(hev:iG ev (env.map aD.enc))(hc:left.length=40):
  wF L 223 [.ptr kt 0,.i i,ev] en cnt (oZ kt kr en cnt p 4):=by
 have H:=h.pre;have ht:=h.t;have hg:n.kids.getD i 0=n.kids[i]:=by simp[bO2,hi]
 have hL:=at_ Tryz.func223
 conv at hL=>rhs;reduce
 refine cA hL rfl rfl ?_
 simp only[go_sem,kK]
 refine cK 12 rfl ?_
 rcases hev with rfl|rfl<;>
 (simp only[go_sem,bO5,bO3,ht,kB,hi]
  exact aKy h (l:=[⟨n.kids.getD i 0,env,[]⟩]) (.inr (by rw[hg];rfl)) (by simp;omega) (by simp;omega))
theorem rD (h:TS kt kr en cnt p w a left f n back bv){v:aD}(hv:v.kind=5->inR v.n 0 ((w.objs.length:Int)-1)=true)(form:Int):
  WIn L (.fn 359 [] []) [.ptr kt 0,.agg [.i v.kind,.i v.n],.i form] en cnt fun r en' cnt'=>(∃x,r= .tup [x,.bool (dA w v form)]/\ (x= .agg [.i 0,.i 0,.cl [],.cl []]/\ dA w v form=false \/x=aR.enc (w.obj v.n)/\ dA w v form=true))/\ (∃bv',TS kt kr en' cnt' p w a left f n back bv')/\ dU kt kr en cnt en' cnt':=by
 have H:=h.pre;have ht:=h.t;have hr:=h.r;have hL:=at_ Tryz.func359
 conv at hL=>rhs;reduce
 refine bD hL rfl rfl ?_
 by_cases h5:v.kind=5
 ·have d5:decide (v.kind=5)=true:=decide_eq_true h5;have hin:=hv h5;have hob:=fun en=>yJ (w:=w) (i:=v.n) (k:= .i64) (en:=en) hin
  by_cases hf:(w.obj v.n).form=form
  ·have df:decide ((w.obj v.n).form=form)=true:=decide_eq_true hf;have hI:dA w v form=true:=by simp[dA,h5,hf]
   simp only[go_sem,kK,H,ht,hr,d5,hob,df];exact⟨⟨_,by rw[hI],.inr ⟨rfl,hI⟩⟩,h.stay (fun k hk=>by simp only[hk.set]) (by(repeat refine upS ?_ (by omega));exact aN _)⟩
  ·have df:decide ((w.obj v.n).form=form)=false:=decide_eq_false hf;have hI:dA w v form=false:=by simp[dA,h5,hf]
   simp only[go_sem,kK,H,ht,hr,d5,hob,df];exact⟨⟨_,by rw[hI],.inl ⟨rfl,hI⟩⟩,h.stay (fun k hk=>by simp only[hk.set]) (by(repeat refine upS ?_ (by omega));exact aN _)⟩
 ·have d5:decide (v.kind=5)=false:=decide_eq_false h5;have hI:dA w v form=false:=by simp[dA,h5]
  simp only[go_sem,kK,d5];exact⟨⟨_,by rw[hI],.inl ⟨rfl,hI⟩⟩,h.stay (fun k hk=>by simp only[hk.set]) (by(repeat refine upS ?_ (by omega));exact aN _)⟩
theorem uQ (h:TS kt kr en cnt p w a left f n back bv){v:aD}(hv:v.kind=5->inR v.n 0 ((w.objs.length:Int)-1)=true)(form:Int)(hI:dA w v form=true):
  WIn L (.fn 329 [] []) [.ptr kt 0,.agg [.i v.kind,.i v.n],.i form] en cnt fun r en' cnt'=>r= .agg [.i (w.obj v.n).form,.i (w.obj v.n).n,.fz ((w.obj v.n).vals.map aD.enc),.fz ((w.obj v.n).frames.map aB.enc)]/\ (∃bv',TS kt kr en' cnt' p w a left f n back bv')/\ dU kt kr en cnt en' cnt':=by
 have hL:=at_ Tryz.func329
 conv at hL=>rhs;reduce
 refine bD hL rfl rfl ?_
 simp only[go_sem,kK];obtain⟨⟨bv1,h1⟩,k1⟩:=h.stay (cnt':=aC (aC cnt 0 4 (cnt 0 4+1)) 0 6 (cnt 0 6+1)) (en':=(en.set ⟨0,4,cnt 0 4⟩ (some (.box [.i v.kind,.i v.n] false))).set ⟨0,6,cnt 0 6⟩ (some (.box [.i 0,.i 0,.cl [],.cl []] false))) (fun k hk=>by simp only[hk.set]) (by(repeat refine upS ?_ (by omega));exact aN _)
 refine(rD h1 hv form).mono ?_
 rintro r e1 c1 ⟨⟨x,rfl,hx⟩,⟨bv2,h2⟩,k2⟩
 rcases hx with⟨_,hx⟩|⟨rfl,_⟩
 ·rw[hI]at hx;cases hx
 have o6:=k2.old ⟨0,6,cnt 0 6⟩ ⟨rfl,by simp only[go_sem];omega⟩ h.okt.ne.symm h.okr.ne.symm
 simp only[go_sem]at o6;have v6: ∀(en:En) (d:Nat) (e:Option Ent),En.set en ⟨0,d,c1 0 d⟩ e ⟨0,6,cnt 0 6⟩=en ⟨0,6,cnt 0 6⟩:=(Old.up (cnt:=aC (aC cnt 0 4 (cnt 0 4+1)) 0 6 (cnt 0 6+1)) ⟨rfl,by simp only[go_sem];omega⟩ k2.up).set
 have w6: ∀(en:En) (d:Nat) (e:Option Ent),En.set en ⟨0,6,cnt 0 6⟩ e ⟨0,d,c1 0 d⟩=en ⟨0,d,c1 0 d⟩:=(Old.up (cnt:=aC (aC cnt 0 4 (cnt 0 4+1)) 0 6 (cnt 0 6+1)) ⟨rfl,by simp only[go_sem];omega⟩ k2.up).new
 simp only[go_sem,hI]
 refine bL ?_
 simp only[go_sem,(gY _).ret,o6,v6];exact h.fin h2 (k1.trans k2) (fun k hk hj=>by simp only[hk.set,hj.set]) (by(repeat refine upS ?_ (by omega));exact aN _)
theorem uR (h:TS kt kr en cnt p w a left f n back bv){v:aD}(hv:v.kind=5->inR v.n 0 ((w.objs.length:Int)-1)=true)(form:Int)(hI:dA w v form=false):
  wF L 329 [.ptr kt 0,.agg [.i v.kind,.i v.n],.i form] en cnt (oZ kt kr en cnt p 2):=by
 have hL:=at_ Tryz.func329
 conv at hL=>rhs;reduce
 refine cA hL rfl rfl ?_
 simp only[go_sem,kK];obtain⟨⟨bv1,h1⟩,k1⟩:=h.stay (cnt':=aC (aC cnt 0 4 (cnt 0 4+1)) 0 6 (cnt 0 6+1)) (en':=(en.set ⟨0,4,cnt 0 4⟩ (some (.box [.i v.kind,.i v.n] false))).set ⟨0,6,cnt 0 6⟩ (some (.box [.i 0,.i 0,.cl [],.cl []] false))) (fun k hk=>by simp only[hk.set]) (by(repeat refine upS ?_ (by omega));exact aN _)
 refine(rD h1 hv form).mono ?_
 rintro r e1 c1 ⟨⟨x,rfl,hx⟩,⟨bv2,h2⟩,k2⟩
 rcases hx with⟨rfl,_⟩|⟨_,hx⟩
 case inr=>rw[hI]at hx;cases hx
 simp only[go_sem,hI]
 refine cK 1 rfl ?_
 simp only[go_sem,bO5,bO3,(jZ _).ret];obtain⟨⟨bv3,h3⟩,k3⟩:=h.fin h2 (k1.trans k2) (en2:=(e1.set ⟨0,7,c1 0 7⟩ (some (.box [.i 0,.i 0,.cl [],.cl []] false))).set ⟨0,7,c1 0 7⟩ (some (.box [.i 0,.i 0,.cl [],.cl []] false))) (cnt2:=aC c1 0 7 (c1 0 7+1)) (fun k hk hj=>by simp only[hj.set]) (by(repeat refine upS ?_ (by omega));exact aN _)
 exact⟨rfl,k3,h3.rb⟩
theorem aSr (h:1<l.length):nO 2 en (.fz (l.map aD.enc)) (.i 1)=some {v:= .fp [.i (aE l 1).kind,.i (aE l 1).n] 0}:=by
 have e:aE l 1=l[1]:=by simp[aE,bO2,h]
 rw[e];exact aUo (k:= .i64) (j:=1) h rfl
theorem aK0 (h:0<l.length):nO 2 en (.fz (l.map aD.enc)) (.i 0)=some {v:= .fp [.i (aE l 0).kind,.i (aE l 0).n] 0}:=by
 have e:aE l 0=l[0]:=by simp[aE,bO2,h]
 rw[e];exact aUo (k:= .i64) (j:=0) h rfl
theorem aSs (h:TS kt kr en cnt p w a left f n back bv)(hv:f.vals.length=2)(h1:(aE f.vals 0).kind=1)(h2:(aE f.vals 1).kind=1):
  WIn L (.fn 331 [] []) [.ptr kt 0] en cnt fun r en' cnt'=>r= .tup [.i (aE f.vals 0).n,.i (aE f.vals 1).n]/\ en'=en/\ cnt'=cnt:=by
 have ht:=h.t;have d1:decide ((aE f.vals 0).kind=1)=true:=decide_eq_true h1;have d2:decide ((aE f.vals 1).kind=1)=true:=decide_eq_true h2;have hL:=at_ Tryz.func331
 conv at hL=>rhs;reduce
 refine bD hL rfl rfl ?_
 simp only[go_sem,kK]
 refine bL ?_
 simp only[go_sem,kK,ht,aK0 (l:=f.vals) (by omega),aSr (l:=f.vals) (by omega),d1,d2,(gY _).ret]
theorem aSt (h:TS kt kr en cnt p w a left f n back bv)(hv:f.vals.length=2)(h12: ¬(aE f.vals 0).kind=1 \/ ¬(aE f.vals 1).kind=1):
  wF L 331 [.ptr kt 0] en cnt (oZ kt kr en cnt p 2):=by
 have ht:=h.t;have hL:=at_ Tryz.func331
 conv at hL=>rhs;reduce
 refine cA hL rfl rfl ?_
 simp only[go_sem,kK]
 refine cK 20 rfl ?_
 by_cases h1:(aE f.vals 0).kind=1
 ·have d1:decide ((aE f.vals 0).kind=1)=true:=decide_eq_true h1;have d2:decide ((aE f.vals 1).kind=1)=false:=decide_eq_false (by rcases h12 with h|h;exact absurd h1 h;exact h)
  simp only[go_sem,kK,bO5,bO3,ht,aK0 (l:=f.vals) (by omega),aSr (l:=f.vals) (by omega),d1,d2,(jZ _).ret]
  exact⟨rfl,dU.refl _ _ _ _,h.rb⟩
 ·have d1:decide ((aE f.vals 0).kind=1)=false:=decide_eq_false h1;simp only[go_sem,kK,bO5,bO3,ht,aK0 (l:=f.vals) (by omega),d1,(jZ _).ret]
  exact⟨rfl,dU.refl _ _ _ _,h.rb⟩
end
structure bOu (en:En) (cnt:Nat->Nat->Nat) (en':En) (cnt':Nat->Nat->Nat):Prop where
 old: ∀t g,g<cnt 0 t->en' ⟨0,t,g⟩=en ⟨0,t,g⟩
 up: ∀t,cnt 0 t<=cnt' 0 t
def xO (en:En)(cnt:Nat->Nat->Nat)(v:Val)(size:Nat)(xs:List Val)(t:Nat):Prop:=(v= .cl []/\ xs=[]) \/ ∃g,v= .bl ⟨0,t,g⟩ 0 xs.length/\ en ⟨0,t,g⟩=some (.blk size xs false)/\ g<cnt 0 t/\ xs.isEmpty=false
variable {ga:Nat}
theorem jG {a:Nat}(h:cnt 0 a<=ga)(hg:g<cnt 0 t):En.set en ⟨0,a,ga⟩ e ⟨0,t,g⟩=en ⟨0,t,g⟩:=by
 refine pZ fun he=>?_
 injection he with h1 h2 h3
 subst h2;subst h3;omega
theorem oC {a:Nat}(h: ∀t,cnt 0 t<=c 0 t)(hg:ga=cnt 0 a): ∀t,cnt 0 t<=aC c 0 a (ga+1) 0 t:=by
 intro t
 by_cases ht:t=a
 ·subst ht;rw[aZ9];omega
 ·rw[bAa ht];exact h t
theorem xO.keep (h:xO en cnt v size xs t)(he: ∀g,g<cnt 0 t->en' ⟨0,t,g⟩=en ⟨0,t,g⟩)(hc:cnt 0 t<=cnt' 0 t):xO en' cnt' v size xs t:=by
 rcases h with h|⟨g,h1,h2,h3,h4⟩
 ·exact .inl h
 ·exact .inr ⟨g,h1,by rw[he g h3];exact h2,by omega,h4⟩
theorem aK1 {off len:Nat}:iN en (.bl k off len)=(match en k with
  |some (.blk _ xs _)=>if off+len<=xs.length/\ k.deep=false then some ((xs.drop off).take len,[.val k])else none
  |_=>none):=(rfl)
def aE9 (en:En)(cnt:Nat->Nat->Nat)(w:aA)(vO vT vU vI:Val):Prop:=
 (vO= .fz (w.objs.map aR.enc)/\ vT= .fz (w.tasks.map (.int .i64))/\ vU= .fz (w.outs.map bR.enc)/\ vI= .fz (w.ins.map (.int .i64))) \/
 ∃gO gT,vO= .bl ⟨0,22,gO⟩ 0 w.objs.length/\ en ⟨0,22,gO⟩=some (.blk 4 (w.objs.map aR.enc) false)/\ gO<cnt 0 22/\ vT= .bl ⟨0,8,gT⟩ 0 w.tasks.length/\ en ⟨0,8,gT⟩=some (.blk 1 (w.tasks.map (.int .i64)) false)/\ gT<cnt 0 8/\
  xO en cnt vU 2 (w.outs.map bR.enc) 11/\ xO en cnt vI 1 (w.ins.map (.int .i64)) 14
variable {vI vO vT vU:Val}
theorem aE9.keep (h:aE9 en cnt w vO vT vU vI)(he: ∀t g,g<cnt 0 t->en' ⟨0,t,g⟩=en ⟨0,t,g⟩)(hc: ∀t,cnt 0 t<=cnt' 0 t):aE9 en' cnt' w vO vT vU vI:=by
 rcases h with h|⟨gO,gT,h1,h2,h3,h4,h5,h6,h7,h8⟩
 ·exact .inl h
 ·exact .inr ⟨gO,gT,h1,by rw[he _ _ h3];exact h2,bPo h3 (hc _),h4,by rw[he _ _ h6];exact h5,bPo h6 (hc _),h7.keep (fun g hg=>he _ g hg) (hc _),h8.keep (fun g hg=>he _ g hg) (hc _)⟩
theorem aA5 (en:En)(cnt:Nat->Nat->Nat)(w:aA):aE9 en cnt w (.fz (w.objs.map aR.enc)) (.fz (w.tasks.map (.int .i64))) (.fz (w.outs.map bR.enc)) (.fz (w.ins.map (.int .i64))):= .inl ⟨rfl,rfl,rfl,rfl⟩
structure vW (en:En) (cnt:Nat->Nat->Nat) (w:aA) (tail:List Val) (v:Val) (en':En) (cnt':Nat->Nat->Nat):Prop where
 parts: ∃g5 g8 vU vI,v= .agg (.bl ⟨0,5,g5⟩ 0 w.objs.length:: .bl ⟨0,8,g8⟩ 0 w.tasks.length::vU::vI:: .i w.used::tail)/\
   en' ⟨0,5,g5⟩=some (.blk 4 (w.objs.map aR.enc) false)/\ cnt 0 5<=g5/\ g5<cnt' 0 5/\ en' ⟨0,8,g8⟩=some (.blk 1 (w.tasks.map (.int .i64)) false)/\ cnt 0 8<=g8/\ g8<cnt' 0 8/\ xO en' cnt' vU 2 (w.outs.map bR.enc) 11/\ xO en' cnt' vI 1 (w.ins.map (.int .i64)) 14
 old: ∀t g,g<cnt 0 t->en' ⟨0,t,g⟩=en ⟨0,t,g⟩
 up: ∀t,cnt 0 t<=cnt' 0 t
theorem aFa (w:aA)(h1:0<w.objs.length)(h2:0<w.tasks.length)(hl:w.objs.length<=130/\ w.tasks.length<=130/\ w.outs.length<=110/\ w.ins.length<=60)(hL:aE9 en cnt w vO vT vU vI):
  WIn L (.fn 175 [] []) [.agg [vO,vT,vU,vI,.i w.used]] en cnt fun v en' cnt'=>vW en cnt w [] v en' cnt':=by
 obtain⟨objs,tasks,outs,ins,used⟩:=w;dsimp only at h1 h2 hl;have hl1:objs.length<=16777216:=by omega
 have hl2:tasks.length<=16777216:=by omega
 have hl3:outs.length<=16777216:=by omega
 have hl4:ins.length<=16777216:=by omega
 have he1:objs.isEmpty=false:=aKq h1;have he2:tasks.isEmpty=false:=aKq h2;have tk1:((objs.map aR.enc).take objs.length)=objs.map aR.enc:=bPi (by simp)
 have tk2:((tasks.map (Val.int .i64)).take tasks.length)=tasks.map (.int .i64):=bPi (by simp)
 have tk3:((outs.map bR.enc).take outs.length)=outs.map bR.enc:=bPi (by simp)
 have tk4:((ins.map (Val.int .i64)).take ins.length)=ins.map (.int .i64):=bPi (by simp)
 obtain⟨g1,hg1⟩: ∃g,g=cnt 0 1:=⟨_,rfl⟩
 obtain⟨g2,hg2⟩: ∃g,g=cnt 0 2:=⟨_,rfl⟩
 obtain⟨g5,hg5⟩: ∃g,g=cnt 0 5:=⟨_,rfl⟩
 obtain⟨g8,hg8⟩: ∃g,g=cnt 0 8:=⟨_,rfl⟩
 obtain⟨g11,hg11⟩: ∃g,g=cnt 0 11:=⟨_,rfl⟩
 obtain⟨g14,hg14⟩: ∃g,g=cnt 0 14:=⟨_,rfl⟩
 have fin: ∀{vU vI:Val} {en':En} {cnt':Nat->Nat->Nat},en' ⟨0,5,g5⟩=some (.blk 4 (objs.map aR.enc) false)->g5<cnt' 0 5->en' ⟨0,8,g8⟩=some (.blk 1 (tasks.map (.int .i64)) false)->g8<cnt' 0 8->xO en' cnt' vU 2 (outs.map bR.enc) 11->xO en' cnt' vI 1 (ins.map (.int .i64)) 14->
   (∀t g,g<cnt 0 t->en' ⟨0,t,g⟩=en ⟨0,t,g⟩)->(∀t,cnt 0 t<=cnt' 0 t)->vW en cnt ⟨objs,tasks,outs,ins,used⟩ [] (.agg [.bl ⟨0,5,g5⟩ 0 objs.length,.bl ⟨0,8,g8⟩ 0 tasks.length,vU,vI,.i used]) en' cnt':=
  fun a1 a2 a3 a4 a5 a6 a7 a8=>⟨⟨g5,g8,_,_,rfl,a1,by omega,a2,a3,by omega,a4,a5,a6⟩,a7,a8⟩
 have old: ∀{t g:Nat},g<cnt 0 t-> ∀{e:En} {a ga:Nat} {x:Option Ent},ga=cnt 0 a->En.set e ⟨0,a,ga⟩ x ⟨0,t,g⟩=e ⟨0,t,g⟩:=fun hg _ _ _ _ h=>jG (bQd h.symm) hg
 have hLz:=at_ Tryz.func175
 conv at hLz=>rhs;reduce
 refine bD hLz rfl rfl ?_
 rcases hL with⟨rfl,rfl,rfl,rfl⟩|⟨gO,gT,rfl,eO,lO,rfl,eT,lT,mU,mI⟩
 ·simp only[go_sem,kK,<-hg1,<-hg2]
  refine aI ?_
  cases hu:outs.isEmpty<;>cases hi:ins.isEmpty
  all_goals
   try(have hu':outs=[]:=(by simpa using hu);subst hu')
   try(have hi':ins=[]:=(by simpa using hi);subst hi')
   simp only[go_sem,bT,eG,nD,iX,iI,he1,he2,hu,hi,hl1,hl2,hl3,hl4,yT,aB0,aPk,bOz,bPf,<-hg5,<-hg8,<-hg11,<-hg14,kB,kA,bO0,if_false]
   refine fin (by simp only[go_sem]) (by simp[aC]) (by simp only[go_sem]) (by simp[aC]) ?_ ?_ ?_ ?_
   ·first
     |exact .inl ⟨rfl,rfl⟩
     |exact .inr ⟨g11,by rw[bOz],by simp only[go_sem],by simp[aC],by rw[iI];exact hu⟩
   ·first
     |exact .inl ⟨rfl,rfl⟩
     |exact .inr ⟨g14,by rw[bOz],by simp only[go_sem],by simp[aC],by rw[iI];exact hi⟩
   ·intro t g hg;simp only[old hg hg1,old hg hg2,old hg hg5,old hg hg8,old hg hg11,old hg hg14]
   ·repeat' (refine oC ?_ (by assumption))
    exact fun _=>bOy _
 ·dsimp only at eO eT;have eU:=True.intro;have eI:=True.intro;rcases mU with⟨rfl,hu⟩|⟨gU,rfl,eU,lU,hu⟩<;>rcases mI with⟨rfl,hi⟩|⟨gI,rfl,eI,lI,hi⟩
  all_goals try dsimp only at eU
  all_goals try dsimp only at eI
  all_goals
   try(have hu':outs=[]:=(by simpa using hu);subst hu')
   try(have hi':ins=[]:=(by simpa using hi);subst hi')
   simp only[go_sem,kK,<-hg1,<-hg2]
   refine aI ?_
   try(have hu:=hu;rw[iI]at hu)
   try(have hi:=hi;rw[iI]at hi)
   simp only[go_sem,bT,eG,aK1,nD,iX,iI,he1,he2,hu,hi,hl1,hl2,hl3,hl4,tk1,tk2,tk3,tk4,yT,aB0,aPk,bOz,bPf,bOy,<-hg5,<-hg8,<-hg11,<-hg14,eO,eT,eU,eI,kB,kA,bO0,if_false]
   refine fin (by simp only[go_sem]) (by simp[aC]) (by simp only[go_sem]) (by simp[aC]) ?_ ?_ ?_ ?_
   ·first
     |exact .inl ⟨rfl,rfl⟩
     |exact .inr ⟨g11,by rw[bOz],by simp only[go_sem],by simp[aC],by rw[iI];assumption⟩
   ·first
     |exact .inl ⟨rfl,rfl⟩
     |exact .inr ⟨g14,by rw[bOz],by simp only[go_sem],by simp[aC],by rw[iI];assumption⟩
   ·intro t g hg;simp only[old hg hg1,old hg hg2,old hg hg5,old hg hg8,old hg hg11,old hg hg14]
   ·repeat' (refine oC ?_ (by assumption))
    exact fun _=>bOy _
theorem xO.shape (h:xO en cnt v size xs t):v.one=true/\ v.cells=[v]:=by
 rcases h with⟨rfl,_⟩|⟨g,rfl,_⟩<;>exact⟨rfl,rfl⟩
structure aCs (a x:Val):Prop where
 snap: ∀n en,snapD (n+1) en a=some (a,[])
 wk:a.wk0=x
 one:a.one=true
 cells:a.cells=[a]
theorem rU (xs:List Val):aCs (.fz xs) (.fz xs):=⟨fun _ _=>rfl,rfl,rfl,rfl⟩
theorem aFb (xs:List Val):aCs (.cl xs) (.fz xs):=⟨fun _ _=>rfl,rfl,rfl,rfl⟩
theorem aWe (w:aA)(j:Nat)(o:aR){a b:Val}(ha:aCs a (.fz (o.vals.map aD.enc)))(hb:aCs b (.fz (o.frames.map aB.enc)))(hj:j<w.objs.length)(ht:0<w.tasks.length)(hl:w.objs.length<=130/\ w.tasks.length<=130/\ w.outs.length<=110/\ w.ins.length<=60)(hL:aE9 en cnt w vO vT vU vI)
  (hs:(vO.one=true/\ vO.cells=[vO])/\ (vT.one=true/\ vT.cells=[vT])/\ (vU.one=true/\ vU.cells=[vU])/\ (vI.one=true/\ vI.cells=[vI])):
  WIn L (.fn 126 [] []) [.agg [vO,vT,vU,vI,.i w.used],.i j,.agg [.i o.form,.i o.n,a,b]] en cnt fun v en' cnt'=>vW en cnt (eC w j o) [] v en' cnt':=by
 obtain⟨g3,hg3⟩: ∃g,g=cnt 0 3:=⟨_,rfl⟩
 obtain⟨gA,hgA⟩: ∃g,g=cnt 0 5:=⟨_,rfl⟩
 obtain⟨g6,hg6⟩: ∃g,g=cnt 0 6:=⟨_,rfl⟩
 have hget:(w.objs.map aR.enc)[j]?=some (aR.enc w.objs[j]):=by simp[hj]
 have up0: ∀t,cnt 0 t<=aC (aC (aC cnt 0 3 (g3+1)) 0 5 (gA+1)) 0 6 (g6+1) 0 t:=oC (oC (oC (fun _=>bOy _) hg3) hgA) hg6
 have hLz:=at_ Tryz.func126
 conv at hLz=>rhs;reduce
 refine bD hLz rfl rfl ?_
 simp only[go_sem,kK,<-hg3,<-hgA,<-hg6]
 refine(aFa w (by omega) ht hl (hL.keep (fun t g hg=>?_) up0)).mono ?_
 ·rw[jG (bQd hg6.symm) hg,jG (bQd hgA.symm) hg,jG (bQd hg3.symm) hg]
 rintro v en' cnt' ⟨⟨g5,g8,vU',vI',rfl,e5,l5,m5,e8,l8,m8,mU,mI⟩,old,up⟩
 have e3:=old 3 g3 (by simp[aC])
 have eA:=old 5 gA (by simp[aC])
 have e6:=old 6 g6 (by simp[aC])
 have l5':gA<g5:=by have:=l5;simp[aC]at this;omega
 try simp only[go_sem]at e3 eA e6
 simp only[go_sem,e3,eA,e6,e5,hget,hj,ha.snap,hb.snap,ha.wk,hb.wk,bRg,bPz]
 refine⟨⟨g5,g8,vU',vI',?_,?_,by omega,m5,?_,bPb (up0 8) l8,m8,?_,?_⟩,fun t g hg=>?_,fun t=>bPb (up0 t) (up t)⟩
 ·simp only[eC,bPz,bQ1]
 ·simp only[go_sem,eC,bQ8,bPz]
 ·simp only[go_sem,e8,eC]
 ·exact mU.keep (fun g _=>by simp only[go_sem]) (bOy _)
 ·exact mI.keep (fun g _=>by simp only[go_sem]) (bOy _)
 ·rw[jG (bQd hg6.symm) hg,jG (by omega) hg,jG (bQd hg3.symm) hg,old t g (bPo hg (up0 t)),jG (bQd hg6.symm) hg,jG (bQd hgA.symm) hg,jG (bQd hg3.symm) hg]
theorem aE9.shape (h:aE9 en cnt w vO vT vU vI):
  (vO.one=true/\ vO.cells=[vO])/\ (vT.one=true/\ vT.cells=[vT])/\ (vU.one=true/\ vU.cells=[vU])/\ (vI.one=true/\ vI.cells=[vI]):=by
 rcases h with⟨rfl,rfl,rfl,rfl⟩|⟨gO,gT,rfl,_,_,rfl,_,_,mU,mI⟩
 ·exact⟨⟨rfl,rfl⟩,⟨rfl,rfl⟩,⟨rfl,rfl⟩,rfl,rfl⟩
 ·exact⟨⟨rfl,rfl⟩,⟨rfl,rfl⟩,mU.shape,mI.shape⟩
theorem aGn {f:Nat}{lf:jB}{args:List Val}(hL:L f=some lf)(hk:lf.keep=false)(hn:args.length=lf.np)(ha:wR lf args=false)
  (h:WIn L (.fn f [] []) args (fun _=>none) (fun _ _=>0) fun v en' _=> ∃r' ks,snapD 8 en' v=some (r',ks)/\ r'.wk=r) (hz:lf.nrm=[]:=by rfl):PC L f args r:=by
 obtain⟨v,en',cnt',⟨n0,h0⟩,r',ks,h1,h2⟩:=h
 refine⟨n0,fun n hm=>?_⟩
 have hx:=h0 n hm (fun _=> .tup [])
 simp only[Inl.call,eW,zU,bP1,bPx]at hx;have hx:kP L (exec L n) f args ⟨fun _=> .tup [],fun _=>none,fun _ _=>0⟩=some (v,⟨fun _=> .tup [],en',cnt'⟩):=by
  split at hx
  case h_2=>cases hx
  rename_i hw;simp only[hL,hz,norms,bOw]at hx;rw[hw];exact congrArg some hx
 simp only[kP,hL,hn,if_true,ha,bO0,if_false]at hx;simp only[lC,bM,hL,hn,if_true,ha,bO0,if_false,iT,Go.Abs.start]
 split at hx
 ·rename_i e st' he
  split at hx
  ·rename_i hend;simp only[hend,if_true];obtain⟨vs,hvs,heq⟩:=bPa.1 hx;simp only[bO1,St.mk.injEq]at heq;obtain⟨rfl,_,rfl,_⟩:=heq;simp only[aDz,hvs,hk,bO0,if_false,tX _ _ _ _ h1 8 (bOy _),h2]
  ·cases hx
 ·cases hx
theorem xO.snapB (h:xO en cnt v size xs t)(n:Nat): ∃r ks,snapD (n+1) en v=some (r,ks)/\ r.wk0= .fz xs:=by
 rcases h with⟨rfl,rfl⟩|⟨g,rfl,h2,_⟩
 ·exact⟨.cl [],[],rfl,rfl⟩
 ·exact⟨.fz xs,[⟨0,t,g⟩],by simp[snapD,aJy,h2],rfl⟩
theorem vW.snap (h:vW en cnt w [] v en' cnt'): ∃r ks,snapD 8 en' v=some (r,ks)/\ r.wk= .agg w.cs:=by
 obtain⟨⟨g5,g8,vU,vI,rfl,e5,_,_,e8,_,_,mU,mI⟩,_,_⟩:=h;obtain⟨r1,k1,s1,t1⟩:=mU.snapB 6;obtain⟨r2,k2,s2,t2⟩:=mI.snapB 6;have l1:(w.objs.map aR.enc).take w.objs.length=w.objs.map aR.enc:=bPi (by simp)
 have l2:(w.tasks.map (Val.int .i64)).take w.tasks.length=w.tasks.map (.int .i64):=bPi (by simp)
 refine⟨_,_,by simp only[go_sem,e5,e8,s1,s2,l1,l2,bOy];rfl,?_⟩
 simp only[go_sem,t1,t2]
theorem vW.snapD {d:Did}(h:vW en cnt d.w [.i d.what,.i d.e.task,.i d.e.act,.i d.e.n,.i d.e.v.kind,.i d.e.v.n] v en' cnt'): ∃r ks,Go.Abs.snapD 8 en' v=some (r,ks)/\ r.wk= .agg [.fz (d.w.objs.map aR.enc),.fz (d.w.tasks.map (.int .i64)),.fz (d.w.outs.map bR.enc),.fz (d.w.ins.map (.int .i64)),.i d.w.used,.i d.what,.i d.e.task,.i d.e.act,.i d.e.n,.i d.e.v.kind,.i d.e.v.n]:=by
 obtain⟨⟨g5,g8,vU,vI,rfl,e5,_,_,e8,_,_,mU,mI⟩,_,_⟩:=h;obtain⟨r1,k1,s1,t1⟩:=mU.snapB 6;obtain⟨r2,k2,s2,t2⟩:=mI.snapB 6;have l1:(d.w.objs.map aR.enc).take d.w.objs.length=d.w.objs.map aR.enc:=bPi (by simp)
 have l2:(d.w.tasks.map (Val.int .i64)).take d.w.tasks.length=d.w.tasks.map (.int .i64):=bPi (by simp)
 refine⟨_,_,by simp only[go_sem,e5,e8,s1,s2,l1,l2,bOy];rfl,?_⟩
 simp only[go_sem,t1,t2]
structure Fit (w:aA) (a:Int):Prop where
 len:w.objs.length<=130/\ w.tasks.length<=130/\ w.outs.length<=110/\ w.ins.length<=60
 at_:inR a 0 ((w.tasks.length:Int)-1)=true
 rng:inR (bA w a) 0 ((w.objs.length:Int)-1)=true
theorem aFc (ha:inR a 0 ((w.tasks.length:Int)-1)=true):nO 1 en (.fz (w.tasks.map (.int .i64))) (.i a)=some {v:= .fp [.i (bA w a)] 0}:=wG ha
theorem aK2 (w:aA)(n:Int)(o:aR)(hn:inR n 0 ((w.objs.length:Int)-1)=true)(ht:0<w.tasks.length)(hl:w.objs.length<=130/\ w.tasks.length<=130/\ w.outs.length<=110/\ w.ins.length<=60):
  PC L 126 [.agg w.cs,.i n,.agg [.i o.form,.i o.n,.fz (o.vals.map aD.enc),.fz (o.frames.map aB.enc)]] (.agg (eC w n o).cs):=by
 simp only[inR,bSi]at hn;obtain⟨j,rfl⟩:=bP2 hn.1;have hL:=aA5 (fun _=>none) (fun _ _=>0) w
 have hLz:=at_ Tryz.func126
 conv at hLz=>rhs;reduce
 exact aGn hLz rfl rfl rfl ((aWe w j o (rU _) (rU _) (by omega) ht hl hL hL.shape).mono fun v en' cnt' h=>h.snap)
theorem fV (w:aA)(a st:Int)(hf:Fit w a):PC L 177 [.agg w.cs,.i a,.i st] (.agg [.fz ((bI w a st).w.objs.map aR.enc),.fz ((bI w a st).w.tasks.map (.int .i64)),.fz ((bI w a st).w.outs.map bR.enc),.fz ((bI w a st).w.ins.map (.int .i64)),.i (bI w a st).w.used,.i (bI w a st).what,.i (bI w a st).e.task,.i (bI w a st).e.act,.i (bI w a st).e.n,.i (bI w a st).e.v.kind,.i (bI w a st).e.v.n]):=by
 have ha:=hf.at_;simp only[inR,bSi]at ha;have hS:=aK2 w (bA w a) ⟨6,st,[],[]⟩ hf.rng (by omega) hf.len
 have hLz:=at_ Tryz.func177
 conv at hLz=>rhs;reduce
 refine aG hLz rfl rfl ?_
 simp only[bPf]at hS;simp only[go_sem,kK,aFc hf.at_,hS.ret,bI,jL]
theorem aSu (w:aA)(a:Int)(left:List aB)(v:aD){c:Val}(hc:aCs c (.fz (left.map aB.enc)))(hf:Fit w a)(hL:aE9 en cnt w vO vT vU vI):
  WIn L (.fn 178 [] []) [.agg [vO,vT,vU,vI,.i w.used],.i a,c,.agg [.i v.kind,.i v.n]] en cnt fun x en' cnt'=>vW en cnt (bY w a left v).w [.i 0,.i 0,.i 0,.i 0,.i 0,.i 0] x en' cnt':=by
 have ha:=hf.at_;have hr:=hf.rng;simp only[inR,bSi]at ha hr;obtain⟨j,hj⟩:=bP2 hr.1;obtain⟨i,rfl⟩:=bP2 ha.1;have hi:i<w.tasks.length:=by omega
 have hti:w.tasks[i]=(j:Int):=by rw[<-hj];simp[bA,bO2,hi]
 have hget:(w.tasks.map (Val.int .i64))[i]?=some (.i (j:Int)):=by simp[hi,hti]
 have hi1:((i:Int)<(w.tasks.length:Int)):=by omega
 obtain⟨⟨o1,o2⟩,⟨t1,t2⟩,⟨u1,u2⟩,⟨i1,i2⟩⟩:=hL.shape;obtain⟨g4,hg4⟩: ∃g,g=cnt 0 4:=⟨_,rfl⟩
 obtain⟨g7,hg7⟩: ∃g,g=cnt 0 7:=⟨_,rfl⟩
 obtain⟨g8,hg8⟩: ∃g,g=cnt 0 8:=⟨_,rfl⟩
 have up0: ∀t,cnt 0 t<=aC (aC (aC cnt 0 4 (g4+1)) 0 7 (g7+1)) 0 8 (g8+1) 0 t:=oC (oC (oC (fun _=>bOy _) hg4) hg7) hg8
 have hD:(bY w i left v).w=eC w j ⟨6,0,[v],left⟩:=by simp only[bY,hj]
 rw[hD];have key:=fun{en1:En} (h: ∀t g,g<cnt 0 t->en1 ⟨0,t,g⟩=en ⟨0,t,g⟩)=>aWe w j ⟨6,0,[v],left⟩ (aFb [.agg [.i v.kind,.i v.n]]) hc (by omega) (by omega) hf.len (en:=en1) (cnt:=aC (aC (aC cnt 0 4 (g4+1)) 0 7 (g7+1)) 0 8 (g8+1)) (hL.keep h up0) hL.shape
 have hj':w.tasks.getD ((i:Int)).toNat 0=(j:Int):=hj;have oldS:=fun{e1:En} {x4 x7 x8:Option Ent} {t g:Nat} (hg:g<cnt 0 t)=>show((e1.set ⟨0,4,g4⟩ x4).set ⟨0,7,g7⟩ x7).set ⟨0,8,g8⟩ x8 ⟨0,t,g⟩=e1 ⟨0,t,g⟩by
  rw[jG (bQd hg8.symm) hg,jG (bQd hg7.symm) hg,jG (bQd hg4.symm) hg]
 have fin: ∀{en1:En} {x:Val} {en':En} {cnt':Nat->Nat->Nat},(∀t g,g<cnt 0 t->en1 ⟨0,t,g⟩=en ⟨0,t,g⟩)->vW en1 (aC (aC (aC cnt 0 4 (g4+1)) 0 7 (g7+1)) 0 8 (g8+1)) (eC w j ⟨6,0,[v],left⟩) [] x en' cnt'->
   ∃g5 g9 vU vI,x= .agg [.bl ⟨0,5,g5⟩ 0 (eC w j ⟨6,0,[v],left⟩).objs.length,.bl ⟨0,8,g9⟩ 0 (eC w j ⟨6,0,[v],left⟩).tasks.length,vU,vI,.i (eC w j ⟨6,0,[v],left⟩).used]/\ (vU.one=true/\ vU.cells=[vU])/\ (vI.one=true/\ vI.cells=[vI])/\ en' ⟨0,8,g8⟩=en1 ⟨0,8,g8⟩/\
    ∀Z:Option Ent,vW en cnt (eC w j ⟨6,0,[v],left⟩) [.i 0,.i 0,.i 0,.i 0,.i 0,.i 0] (.agg (.bl ⟨0,5,g5⟩ 0 (eC w j ⟨6,0,[v],left⟩).objs.length:: .bl ⟨0,8,g9⟩ 0 (eC w j ⟨6,0,[v],left⟩).tasks.length::vU::vI:: .i (eC w j ⟨6,0,[v],left⟩).used::[.i 0,.i 0,.i 0,.i 0,.i 0,.i 0])) (en'.set ⟨0,8,g8⟩ Z) cnt':=by
  rintro en1 x en' cnt' h1 ⟨⟨g5,g9,vU,vI,rfl,e5,l5,m5,e9,l9,m9,mU,mI⟩,old,up⟩
  have hlt:g8<aC (aC (aC cnt 0 4 (g4+1)) 0 7 (g7+1)) 0 8 (g8+1) 0 8:=by simp[aC]
  refine⟨g5,g9,vU,vI,rfl,mU.shape,mI.shape,old 8 g8 hlt,fun Z=>⟨⟨g5,g9,vU,vI,rfl,by simp only[go_sem,e5],bPb (up0 5) l5,m5,?_,bPb (up0 8) l9,m9,mU.keep (fun g _=>by simp only[go_sem]) (bOy _),mI.keep (fun g _=>by simp only[go_sem]) (bOy _)⟩,fun t g hg=>?_,fun t=>bPb (up0 t) (up t)⟩⟩
  ·rw[aV6 (by omega)];exact e9
  ·rw[jG (bQd hg8.symm) hg,old t g (bPo hg (up0 t)),h1 t g hg]
 have hLz:=at_ Tryz.func178
 conv at hLz=>rhs;reduce
 refine bD hLz rfl rfl ?_
 simp only[go_sem,kK,<-hg4,<-hg7,<-hg8]
 refine aI ?_
 rcases hL with⟨rfl,rfl,rfl,rfl⟩|⟨gO,gT,rfl,eO,lO,rfl,eT,lT,mU,mI⟩
 ·simp only[go_sem,aCm (f:=Val.int .i64) (size:=1) (k:= .i64) (l:=w.tasks) 0 hf.at_ (fun _=>rfl),hj',hc.one,hc.cells,qA,kZ,kA,bO0,if_false]
  refine(key fun t g hg=>oldS hg).mono ?_
  intro x en' cnt' hO;obtain⟨g5,g9,vU,vI,rfl,⟨s1,s2⟩,⟨s3,s4⟩,e8,hO'⟩:=fin (fun t g hg=>oldS hg) hO
  try simp only[go_sem]at e8
  simp only[go_sem,e8];exact hO' _
 ·have hne: ¬gT=g8:=by omega
  simp only[go_sem,eT,hne,hget,hi1,hc.one,hc.cells,kB,bRg,bPz,kA,bO0,if_false]
  refine(key fun t g hg=>oldS hg).mono ?_
  intro x en' cnt' hO;obtain⟨g5,g9,vU',vI',rfl,⟨s1,s2⟩,⟨s3,s4⟩,e8,hO'⟩:=fin (fun t g hg=>oldS hg) hO
  try simp only[go_sem]at e8
  simp only[go_sem,e8];exact hO' _
theorem jI (w:aA)(a:Int)(left:List aB)(v:aD)(hf:Fit w a):PC L 178 [.agg w.cs,.i a,.fz (left.map aB.enc),.agg [.i v.kind,.i v.n]] (.agg [.fz ((bY w a left v).w.objs.map aR.enc),.fz ((bY w a left v).w.tasks.map (.int .i64)),.fz ((bY w a left v).w.outs.map bR.enc),.fz ((bY w a left v).w.ins.map (.int .i64)),.i (bY w a left v).w.used,.i (bY w a left v).what,.i (bY w a left v).e.task,.i (bY w a left v).e.act,.i (bY w a left v).e.n,.i (bY w a left v).e.v.kind,.i (bY w a left v).e.v.n]):=by
 have hLz:=at_ Tryz.func178
 conv at hLz=>rhs;reduce
 exact aGn hLz rfl rfl rfl ((aSu w a left v (rU _) hf (aA5 _ _ w)).mono fun v en' cnt' h=>h.snapD (d:=bY w a _ _))
theorem bFj {a b:Val}:cY 2 [.agg [a,b]]=true:=(rfl)
theorem bFk {a b c:Val}:cY 3 [.agg [a,b,c]]=true:=(rfl)
theorem bFl {a b c d:Val}:cY 4 [.agg [a,b,c,d]]=true:=(rfl)
theorem bBl {k:IntKind}{n:Int}:cY 1 [.int k n]=true:=(rfl)
theorem aWf (w:aA)(a:Int)(o:aR)(hf:Fit w a):PC L 126 [.agg w.cs,.i (bA w a),.agg [.i o.form,.i o.n,.fz (o.vals.map aD.enc),.fz (o.frames.map aB.enc)]] (.agg (eC w (bA w a) o).cs):=by
 have ha:=hf.at_;simp only[inR,bSi]at ha;exact aK2 w (bA w a) o hf.rng (by omega) hf.len
theorem aB4 (w:aA)(a:Int)(left:List aB)(node:Int)(env:List aD)(hf:Fit w a)(hl:left.length<1000000):PC L 130 [.agg w.cs,.i a,.fz (left.map aB.enc),.i node,.fz (env.map aD.enc)] (.agg [.fz ((gL w a left node env).w.objs.map aR.enc),.fz ((gL w a left node env).w.tasks.map (.int .i64)),.fz ((gL w a left node env).w.outs.map bR.enc),.fz ((gL w a left node env).w.ins.map (.int .i64)),.i (gL w a left node env).w.used,.i (gL w a left node env).what,.i (gL w a left node env).e.task,.i (gL w a left node env).e.act,.i (gL w a left node env).e.n,.i (gL w a left node env).e.v.kind,.i (gL w a left node env).e.v.n]):=by
 have hF:=fV w a 4 hf;have hS:=aWf w a ⟨6,0,[],left++[⟨node,env,[]⟩]⟩ hf;have hl1:left.length<=16777216:=by omega
 have hl2:left.length+1<=16777216:=by omega
 have hLz:=at_ Tryz.func130
 conv at hLz=>rhs;reduce
 refine aG hLz rfl rfl ?_
 by_cases h1:40<=left.length
 ·have d1:decide ((40:Int)<=(left.length:Int))=true:=decide_eq_true (by omega)
  have e:gL w a left node env=bI w a 4:=by unfold gL;rw[if_pos (.inl h1)]
  rw[e];simp only[go_sem,kK,d1,hF.ret]
 ·have d1:decide ((40:Int)<=(left.length:Int))=false:=decide_eq_false (by omega)
  by_cases h2:30<env.length
  ·have d2:decide ((30:Int)<(env.length:Int))=true:=decide_eq_true (by omega)
   have e:gL w a left node env=bI w a 4:=by unfold gL;rw[if_pos (.inr h2)]
   rw[e];simp only[go_sem,kK,d1,d2,hF.ret]
  ·have d2:decide ((30:Int)<(env.length:Int))=false:=decide_eq_false (by omega)
   have e:gL w a left node env=⟨eC w (bA w a) ⟨6,0,[],left++[⟨node,env,[]⟩]⟩,0,iE⟩:=by unfold gL;rw[if_neg (by omega)]
   rw[e];simp only[bQg,bPw,bPf,aB.enc]at hS;cases h0:left.isEmpty with
   |true=>
    have:left=[]:=by simpa using h0
    subst this;simp only[bPf,bP1]at hS⊢;simp only[go_sem,kK,d2,bT,eG,nD,iX,List.isEmpty_cons,bFk,aFc hf.at_,uM,nC,bOy,hS.ret,iE,jL]
   |false=>
    simp only[go_sem,kK,d1,d2,bT,eG,iX,uN,iI,h0,hl1,hl2,lA,jA,bFk,bOz,bPg,bRz,bOy,bPi,aFc hf.at_,uM,nC,hS.ret,iE,jL]
theorem mE (d:Did)(a act n:Int)(v:aD):PC L 189 [.agg [.fz (d.w.objs.map aR.enc),.fz (d.w.tasks.map (.int .i64)),.fz (d.w.outs.map bR.enc),.fz (d.w.ins.map (.int .i64)),.i d.w.used,.i d.what,.i d.e.task,.i d.e.act,.i d.e.n,.i d.e.v.kind,.i d.e.v.n],.i a,.i act,.i n,.agg [.i v.kind,.i v.n]] (.agg [.fz ((dF d a act n v).w.objs.map aR.enc),.fz ((dF d a act n v).w.tasks.map (.int .i64)),.fz ((dF d a act n v).w.outs.map bR.enc),.fz ((dF d a act n v).w.ins.map (.int .i64)),.i (dF d a act n v).w.used,.i (dF d a act n v).what,.i (dF d a act n v).e.task,.i (dF d a act n v).e.act,.i (dF d a act n v).e.n,.i (dF d a act n v).e.v.kind,.i (dF d a act n v).e.v.n]):=by
 have hM:=aNh v;have hLz:=at_ Tryz.func189
 conv at hLz=>rhs;reduce
 refine aG hLz rfl rfl ?_
 by_cases h:d.what=1
 ·have e:dF d a act n v=d:=by unfold dF;rw[if_pos h]
  rw[e];have d1:decide (d.what=1)=true:=decide_eq_true h;simp only[go_sem,kK,d1]
 ·have e:dF d a act n v=⟨d.w,1,⟨a,act,n,qU v⟩⟩:=by unfold dF;rw[if_neg h]
  rw[e];have d1:decide (d.what=1)=false:=decide_eq_false h;simp only[go_sem,kK,d1]
  refine aI ?_
  simp only[go_sem,hM.ret,kA,bO0,if_false]
def uS (w:aA)(v:aD)(form:Int):aR:=if dA w v form=true then w.obj v.n else bBg
theorem pC (w:aA)(v:aD)(form:Int)(hv:v.kind=5->inR v.n 0 ((w.objs.length:Int)-1)=true):PC L 227 [.agg w.cs,.agg [.i v.kind,.i v.n],.i form] (.tup [.agg [.i (uS w v form).form,.i (uS w v form).n,.fz ((uS w v form).vals.map aD.enc),.fz ((uS w v form).frames.map aB.enc)],.bool (dA w v form)]):=by
 have hLz:=at_ Tryz.func227
 conv at hLz=>rhs;reduce
 refine aG hLz rfl rfl ?_
 by_cases h5:v.kind=5
 ·have d1:decide (v.kind=5)=true:=decide_eq_true h5;have hi:=yJ (w:=w) (k:= .i64) (en:=fun _=>none) (hv h5)
  by_cases h2:(w.obj v.n).form=form
  ·have d2:decide ((w.obj v.n).form=form)=true:=decide_eq_true h2;have e:dA w v form=true:=by simp only[dA,d1,d2,Bool.and_self]
   rw[uS,if_pos e,e];simp only[go_sem,kK,d1,d2,yJ (hv h5)]
  ·have d2:decide ((w.obj v.n).form=form)=false:=decide_eq_false h2;have e:dA w v form=false:=by simp only[dA,d2,bQc]
   rw[uS,if_neg (by rw[e];decide),e]
   simp only[go_sem,kK,d1,d2,yJ (hv h5),bBg,bPf]
 ·have d1:decide (v.kind=5)=false:=decide_eq_false h5;have e:dA w v form=false:=by simp only[dA,d1,bPm]
  rw[uS,if_neg (by rw[e];decide),e]
  simp only[go_sem,kK,d1,bBg,bPf]
inductive aGo (w:aA):Nat->Prop
 |task {i:Nat} (h:i<w.objs.length) (t:cW (w.obj i)=true):aGo w i
 |ref {i:Nat} {x:Int} (h:aGo w i) (hx:x∈yO (w.obj i)):aGo w x.toNat
def atB (out:List Bool)(i:Nat):Bool:=out.getD i false
structure bOr (w:aA) (out:List Bool):Prop where
 len:out.length=w.objs.length
 sound: ∀i,atB out i=true->aGo w i
 tasks: ∀i,i<w.objs.length->cW (w.obj i)=true->atB out i=true
def bDs (w:aA):Prop:= ∀o∈w.objs,∀x∈yO o,inR x 0 ((w.objs.length:Int)-1)=true
def aIc (en:En)(v:Val)(xs:List Val)(D:List Nat):Prop:=
 (v= .cl []/\ xs=[]) \/ ∃t g zs,v= .bl ⟨0,t,g⟩ 0 xs.length/\ en ⟨0,t,g⟩=some (.blk 1 zs false)/\ xs.length<=zs.length/\ zs.take xs.length=xs/\ t∈D
variable {D:List Nat}
theorem aIc.keep (h:aIc en v xs D)(k: ∀t g,t∈D->en' ⟨0,t,g⟩=en ⟨0,t,g⟩):aIc en' v xs D:=by
 rcases h with h|⟨t,g,zs,h1,h2,h3,h4,h5⟩
 ·exact .inl h
 ·exact .inr ⟨t,g,zs,h1,by rw[k t g h5];exact h2,h3,h4,h5⟩
theorem aIc.sub {D':List Nat}(h:aIc en v xs D)(k: ∀t∈D,t∈D'):aIc en v xs D':=by
 rcases h with h|⟨t,g,zs,h1,h2,h3,h4,h5⟩
 ·exact .inl h
 ·exact .inr ⟨t,g,zs,h1,h2,h3,h4,k t h5⟩
theorem aIc.len (h:aIc en v xs D):sI v=some xs.length:=by
 rcases h with⟨rfl,rfl⟩|⟨t,g,zs,rfl,_⟩<;>rfl
theorem aIc.shape (h:aIc en v xs D):v.one=true/\ v.cells=[v]:=by
 rcases h with⟨rfl,_⟩|⟨t,g,zs,rfl,_⟩<;>exact⟨rfl,rfl⟩
section
variable {L :bJ}{fr:Nat->Val}{Q:St->Prop}{l:List aM}
end
structure bNe (w:aA) (ks td:List Int):Prop where
 met: ∀x∈ks,∃i:Nat,x=i/\ i<w.objs.length/\ aGo w i
 todo: ∀x∈td,∃i:Nat,x=i/\ i<w.objs.length/\ aGo w i
 tasks: ∀x∈w.tasks,x∈ks \/x∈td
 shut: ∀n∈ks,∀x∈yO (w.obj n),x∈ks \/x∈td
theorem aIc.nil (h:aIc en v xs D)(h0:xs.length=0):xs=[]:=List.eq_nil_of_length_eq_zero h0
def aNm (m:List Int)(i:Nat):Int:=m.getD i 0
structure bLl (w:aA) (m:List Int):Prop where
 len:m.length=w.objs.length
 range: ∀i,i<m.length->aNm m i=0 \/aNm m i=1 \/aNm m i=2
 tasks: ∀i,i<w.objs.length->cW (w.obj i)=true-> ¬aNm m i=0
 black: ∀i,i<w.objs.length->aNm m i=2-> ∀x∈yO (w.obj i),¬aNm m x.toNat=0
structure bOv (w:aA) (keep:List Int):Prop where
 rise:keep.Pairwise (· < ·)
 rng: ∀x∈keep,inR x 0 ((w.objs.length:Int)-1)=true
 refs: ∀n∈keep,∀x∈yO (w.obj n),x∈keep
 len:keep.length<=w.objs.length
theorem aHo.shape (h:aHo en v size xs t):v.one=true/\ v.cells=[v]:=h.mine.shape
theorem aHo.keep (h:aHo en v size xs t)(k: ∀g,en' ⟨0,t,g⟩=en ⟨0,t,g⟩):aHo en' v size xs t:=by
 rcases h with h|⟨g,h1,h2⟩
 ·exact .inl h
 ·exact .inr ⟨g,h1,by rw[k];exact h2⟩
def ne2 (a:Int):Bool:=!decide (a=2)
theorem vZ {keep:List Int}(h:x∈keep):keep.idxOf x<keep.length:=List.idxOf_lt_length_of_mem h
theorem aA6 {l:List aD}{v:aD}(hv:v∈l)(h:bAz v=true):v.n∈yN l:=bPt.2 ⟨v,bQi.2 ⟨hv,h⟩,rfl⟩
end Go.Proofs.YtmnchlhngpdffaaGreat
