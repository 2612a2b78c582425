/- Contracts of functions of the program and of the document: part 2. -/
import Derived.Test.YtmnchlhngpdffaaGreatM1
import Derived.Test.YtmnchlhngpdffaaGreatHxE
set_option linter.all false
open Bool renaming and_eq_true → bN8, and_false → bPp, and_true → bQa, eq_iff_iff → bQh, false_and → bOx, false_eq_true → bOa, false_or → bO6, not_eq_true → bPf, not_eq_true' → bPg, not_false → bOs, not_not → bQq, not_true → bOn, or_eq_true → bPe, true_and → bO3
open Int renaming eq_ofNat_of_zero_le → bQd, natCast_nonneg → bQo, toNat_natCast → bPc, toNat_of_nonneg → bRl
open List renaming all_eq_true → bOe, any_eq_true → bQ8, append_nil → bPa, drop_eq_getElem_cons → bO9, drop_length → bP1, flatMap_cons → bQm, flatMap_nil → bP7, getD_cons_zero → bQ3, getD_eq_getElem?_getD → bOd, getElem?_append_left → bRd, getElem?_eq_getElem → bPh, getElem_mem → bOg, length_append → bOr, length_cons → bOh, length_eq_zero_iff → bRn, length_map → bOc, length_nil → bOo, length_set → bP9, length_singleton → bQ9, map_append → bPn, map_cons → bO4, map_nil → bOq, map_set → bQi, map_take → bP0, mem_cons → bO8, mem_cons_of_mem → bP8, mem_cons_self → bRi, mem_filter → bPy, mem_map → bO5, mem_of_mem_take → bQr, mem_range → bO7, nil_append → bPb, not_all_eq_any_not → bQp, take_length → bPt, take_of_length_le → bOt, take_succ_cons → bOp, take_zero → bOm
open Nat renaming le_of_eq → bPi, le_refl → bN9, le_trans → bOk, lt_of_lt_of_le → bOy, zero_add → bO1, zero_le → bOf
open Option renaming getD_some → bOz, map_eq_some_iff → bOj
open Option.some renaming injEq → bN7
open Prod.mk renaming injEq → bOb
namespace Go.Proofs.YtmnchlhngpdffaaGreat
open Go.Abs Go.Proofs
set_option maxRecDepth 100000
set_option maxHeartbeats 4000000
theorem aCi (l:List Int)(h:Val)(p:Int->Bool)(hc:dJ L (fun x:Int=> .i x) h p l)(x:Int)(hx:x∈l):
  PC L 319 [.i x,.fp [h] 0] (.bool (!p x)):=by
 have hL:=at_ Tryz.func319
 conv at hL=>rhs;reduce
 refine aH hL rfl rfl ?_
 simp only[go_sem,kK]
 refine hc.call x hx _ _ ?_
 simp only[go_sem]
theorem yM (l:List Int)(h:Val)(p:Int->Bool)(hl:Few l.length)(hc:dJ L (fun x:Int=> .i x) h p l):
  PC L 258 [.fz (l.map (.int .i64)),h] (.bool (l.all p)):=by
 have hd:dJ L (fun x:Int=> .i x) (.fn 319 [] [.fp [h] 0]) (fun x=>!p x) l:=by
  refine⟨fun n en hn=>?_,rfl,rfl,rfl,fun x hx en K hK=>?_⟩
  ·obtain⟨m,rfl⟩: ∃m,n=m+4:=⟨n-4,by omega⟩
   simp only[go_sem]
  ·simp only[go_sem,(aCi l h p hc x hx).ret];exact hK
 have hL:=at_ Tryz.func258
 conv at hL=>rhs;reduce
 refine aH hL rfl rfl ?_
 simp only[go_sem,kK,kZ hc.one hc.cells,hc.snap,(aQg l _ _ hl hd).ret];rw[<-bQp,bQq]
theorem aYw (l:List aE)(h:Val)(p:aE->Bool)(hl:Few l.length)(hc:dJ L (fun x:aE=> .agg [.i x.kind,.i x.n]) h p l):
  PC L 355 [.fz (l.map aE.enc),h] (.i (idxOf p l 0)):=by
 have hL:=at_ Tryz.func355
 conv at hL=>rhs;reduce
 refine aH hL rfl rfl ?_
 simp only[go_sem,kK]
 refine bH (l.length) (fun k st=> ∃fr en cnt,st=⟨fr,en,cnt⟩/\ (fr 0= .fz (l.map aE.enc))/\ (fr 1=h)/\ (fr 7= .i l.length)/\ (fr 8= .i k)/\ (idxOf p (l.drop k) k=idxOf p l 0)) 0 (bOf _) ⟨_,_,_,rfl,(by first|(simp only[go_sem];(try rfl);done)|rfl|simp),(by first|(simp only[go_sem];(try rfl);done)|rfl|simp),(by first|(simp only[go_sem];(try rfl);done)|rfl|simp),(by first|(simp only[go_sem];(try rfl);done)|rfl|simp),(by first|(simp only[go_sem];(try rfl);done)|rfl|simp)⟩ ?_
 rintro k st hk ⟨fr,en,cnt,rfl,h0,h1,h7,h8,hI⟩
 simp only[go_sem,kK,h7,h8]
 refine aD (fun hq=>?_) (fun hq=>?_)
 ·have h':k<l.length:=of_decide_eq_true hq;rw[bO9 h',idxOf]at hI;simp only[go_sem,h',h0,h1,h8]
  refine hc.call l[k] (bOg _) _ _ ?_
  simp only[go_sem,kK]
  refine aD (fun hb=>?_) (fun hb=>?_)
  ·simp only[go_sem,kK];rw[hb,if_pos rfl]at hI;rw[<-hI]
  ·simp only[go_sem,h8];rw[hb]at hI
   simp at hI
   refine⟨_,_,_,rfl,?_⟩
   simp only[go_sem,h0,h1,h7,aQ h' hl];exact hI
 ·have:k=l.length:=by simp at hq;omega
  subst this;simp only[go_sem];rw[<-hI];simp[idxOf]
theorem aVz (l:List aE)(h:Val)(p:aE->Bool)(hl:Few l.length)(hc:dJ L (fun x:aE=> .agg [.i x.kind,.i x.n]) h p l):
  PC L 314 [.fz (l.map aE.enc),h] (.bool (l.any p)):=by
 have hL:=at_ Tryz.func314
 conv at hL=>rhs;reduce
 refine aH hL rfl rfl ?_
 simp only[go_sem,kK,hc.snap,hc.wk,(aYw l h p hl hc).ret];rw[<-mX p l 0]
theorem tM (l:List aE)(h:Val)(p:aE->Bool)(hc:dJ L (fun x:aE=> .agg [.i x.kind,.i x.n]) h p l)(x:aE)(hx:x∈l):
  PC L 315 [.agg [.i x.kind,.i x.n],.fp [h] 0] (.bool (!p x)):=by
 have hL:=at_ Tryz.func315
 conv at hL=>rhs;reduce
 refine aH hL rfl rfl ?_
 simp only[go_sem,kK]
 refine hc.call x hx _ _ ?_
 simp only[go_sem]
theorem kN (l:List aE)(h:Val)(p:aE->Bool)(hl:Few l.length)(hc:dJ L (fun x:aE=> .agg [.i x.kind,.i x.n]) h p l):
  PC L 254 [.fz (l.map aE.enc),h] (.bool (l.all p)):=by
 have hd:dJ L (fun x:aE=> .agg [.i x.kind,.i x.n]) (.fn 315 [] [.fp [h] 0]) (fun x=>!p x) l:=by
  refine⟨fun n en hn=>?_,rfl,rfl,rfl,fun x hx en K hK=>?_⟩
  ·obtain⟨m,rfl⟩: ∃m,n=m+4:=⟨n-4,by omega⟩
   simp only[go_sem]
  ·simp only[go_sem,(tM l h p hc x hx).ret];exact hK
 have hL:=at_ Tryz.func254
 conv at hL=>rhs;reduce
 refine aH hL rfl rfl ?_
 simp only[go_sem,kK,kZ hc.one hc.cells,hc.snap,(aVz l _ _ hl hd).ret];rw[<-bQp,bQq]
theorem aS3 (l:List aA)(h:Val)(p:aA->Bool)(hl:Few l.length)(hc:dJ L (fun x:aA=> .agg [.i x.node,.fz (x.env.map aE.enc),.fz (x.vals.map aE.enc)]) h p l):
  PC L 363 [.fz (l.map aA.enc),h] (.i (idxOf p l 0)):=by
 have hL:=at_ Tryz.func363
 conv at hL=>rhs;reduce
 refine aH hL rfl rfl ?_
 simp only[go_sem,kK]
 refine bH (l.length) (fun k st=> ∃fr en cnt,st=⟨fr,en,cnt⟩/\ (fr 0= .fz (l.map aA.enc))/\ (fr 1=h)/\ (fr 7= .i l.length)/\ (fr 8= .i k)/\ (idxOf p (l.drop k) k=idxOf p l 0)) 0 (bOf _) ⟨_,_,_,rfl,(by first|(simp only[go_sem];(try rfl);done)|rfl|simp),(by first|(simp only[go_sem];(try rfl);done)|rfl|simp),(by first|(simp only[go_sem];(try rfl);done)|rfl|simp),(by first|(simp only[go_sem];(try rfl);done)|rfl|simp),(by first|(simp only[go_sem];(try rfl);done)|rfl|simp)⟩ ?_
 rintro k st hk ⟨fr,en,cnt,rfl,h0,h1,h7,h8,hI⟩
 simp only[go_sem,kK,h7,h8]
 refine aD (fun hq=>?_) (fun hq=>?_)
 ·have h':k<l.length:=of_decide_eq_true hq;rw[bO9 h',idxOf]at hI;simp only[go_sem,h',h0,h1,h8]
  refine hc.call l[k] (bOg _) _ _ ?_
  simp only[go_sem,kK]
  refine aD (fun hb=>?_) (fun hb=>?_)
  ·simp only[go_sem,kK];rw[hb,if_pos rfl]at hI;rw[<-hI]
  ·simp only[go_sem,h8];rw[hb]at hI
   simp at hI
   refine⟨_,_,_,rfl,?_⟩
   simp only[go_sem,h0,h1,h7,aQ h' hl];exact hI
 ·have:k=l.length:=by simp at hq;omega
  subst this;simp only[go_sem];rw[<-hI];simp[idxOf]
theorem aQl (l:List aA)(h:Val)(p:aA->Bool)(hl:Few l.length)(hc:dJ L (fun x:aA=> .agg [.i x.node,.fz (x.env.map aE.enc),.fz (x.vals.map aE.enc)]) h p l):
  PC L 356 [.fz (l.map aA.enc),h] (.bool (l.any p)):=by
 have hL:=at_ Tryz.func356
 conv at hL=>rhs;reduce
 refine aH hL rfl rfl ?_
 simp only[go_sem,kK,hc.snap,hc.wk,(aS3 l h p hl hc).ret];rw[<-mX p l 0]
theorem rN (l:List aA)(h:Val)(p:aA->Bool)(hc:dJ L (fun x:aA=> .agg [.i x.node,.fz (x.env.map aE.enc),.fz (x.vals.map aE.enc)]) h p l)(x:aA)(hx:x∈l):
  PC L 357 [.agg [.i x.node,.fz (x.env.map aE.enc),.fz (x.vals.map aE.enc)],.fp [h] 0] (.bool (!p x)):=by
 have hL:=at_ Tryz.func357
 conv at hL=>rhs;reduce
 refine aH hL rfl rfl ?_
 simp only[go_sem,kK]
 refine hc.call x hx _ _ ?_
 simp only[go_sem]
theorem nD (l:List aA)(h:Val)(p:aA->Bool)(hl:Few l.length)(hc:dJ L (fun x:aA=> .agg [.i x.node,.fz (x.env.map aE.enc),.fz (x.vals.map aE.enc)]) h p l):
  PC L 316 [.fz (l.map aA.enc),h] (.bool (l.all p)):=by
 have hd:dJ L (fun x:aA=> .agg [.i x.node,.fz (x.env.map aE.enc),.fz (x.vals.map aE.enc)]) (.fn 357 [] [.fp [h] 0]) (fun x=>!p x) l:=by
  refine⟨fun n en hn=>?_,rfl,rfl,rfl,fun x hx en K hK=>?_⟩
  ·obtain⟨m,rfl⟩: ∃m,n=m+4:=⟨n-4,by omega⟩
   simp only[go_sem]
  ·simp only[go_sem,(rN l h p hc x hx).ret];exact hK
 have hL:=at_ Tryz.func316
 conv at hL=>rhs;reduce
 refine aH hL rfl rfl ?_
 simp only[go_sem,kK,kZ hc.one hc.cells,hc.snap,(aQl l _ _ hl hd).ret];rw[<-bQp,bQq]
theorem aYx (l:List aR)(h:Val)(p:aR->Bool)(hl:Few l.length)(hc:dJ L (fun x:aR=> .agg [.i x.form,.i x.n,.fz (x.vals.map aE.enc),.fz (x.frames.map aA.enc)]) h p l):
  PC L 313 [.fz (l.map aR.enc),h] (.i (idxOf p l 0)):=by
 have hL:=at_ Tryz.func313
 conv at hL=>rhs;reduce
 refine aH hL rfl rfl ?_
 simp only[go_sem,kK]
 refine bH (l.length) (fun k st=> ∃fr en cnt,st=⟨fr,en,cnt⟩/\ (fr 0= .fz (l.map aR.enc))/\ (fr 1=h)/\ (fr 7= .i l.length)/\ (fr 8= .i k)/\ (idxOf p (l.drop k) k=idxOf p l 0)) 0 (bOf _) ⟨_,_,_,rfl,(by first|(simp only[go_sem];(try rfl);done)|rfl|simp),(by first|(simp only[go_sem];(try rfl);done)|rfl|simp),(by first|(simp only[go_sem];(try rfl);done)|rfl|simp),(by first|(simp only[go_sem];(try rfl);done)|rfl|simp),(by first|(simp only[go_sem];(try rfl);done)|rfl|simp)⟩ ?_
 rintro k st hk ⟨fr,en,cnt,rfl,h0,h1,h7,h8,hI⟩
 simp only[go_sem,kK,h7,h8]
 refine aD (fun hq=>?_) (fun hq=>?_)
 ·have h':k<l.length:=of_decide_eq_true hq;rw[bO9 h',idxOf]at hI;simp only[go_sem,h',h0,h1,h8]
  refine hc.call l[k] (bOg _) _ _ ?_
  simp only[go_sem,kK]
  refine aD (fun hb=>?_) (fun hb=>?_)
  ·simp only[go_sem,kK];rw[hb,if_pos rfl]at hI;rw[<-hI]
  ·simp only[go_sem,h8];rw[hb]at hI
   simp at hI
   refine⟨_,_,_,rfl,?_⟩
   simp only[go_sem,h0,h1,h7,aQ h' hl];exact hI
 ·have:k=l.length:=by simp at hq;omega
  subst this;simp only[go_sem];rw[<-hI];simp[idxOf]
theorem aV0 (l:List aR)(h:Val)(p:aR->Bool)(hl:Few l.length)(hc:dJ L (fun x:aR=> .agg [.i x.form,.i x.n,.fz (x.vals.map aE.enc),.fz (x.frames.map aA.enc)]) h p l):
  PC L 252 [.fz (l.map aR.enc),h] (.bool (l.any p)):=by
 have hL:=at_ Tryz.func252
 conv at hL=>rhs;reduce
 refine aH hL rfl rfl ?_
 simp only[go_sem,kK,hc.snap,hc.wk,(aYx l h p hl hc).ret];rw[<-mX p l 0]
theorem tN (l:List aR)(h:Val)(p:aR->Bool)(hc:dJ L (fun x:aR=> .agg [.i x.form,.i x.n,.fz (x.vals.map aE.enc),.fz (x.frames.map aA.enc)]) h p l)(x:aR)(hx:x∈l):
  PC L 253 [.agg [.i x.form,.i x.n,.fz (x.vals.map aE.enc),.fz (x.frames.map aA.enc)],.fp [h] 0] (.bool (!p x)):=by
 have hL:=at_ Tryz.func253
 conv at hL=>rhs;reduce
 refine aH hL rfl rfl ?_
 simp only[go_sem,kK]
 refine hc.call x hx _ _ ?_
 simp only[go_sem]
theorem wK (l:List aR)(h:Val)(p:aR->Bool)(hl:Few l.length)(hc:dJ L (fun x:aR=> .agg [.i x.form,.i x.n,.fz (x.vals.map aE.enc),.fz (x.frames.map aA.enc)]) h p l):
  PC L 212 [.fz (l.map aR.enc),h] (.bool (l.all p)):=by
 have hd:dJ L (fun x:aR=> .agg [.i x.form,.i x.n,.fz (x.vals.map aE.enc),.fz (x.frames.map aA.enc)]) (.fn 253 [] [.fp [h] 0]) (fun x=>!p x) l:=by
  refine⟨fun n en hn=>?_,rfl,rfl,rfl,fun x hx en K hK=>?_⟩
  ·obtain⟨m,rfl⟩: ∃m,n=m+4:=⟨n-4,by omega⟩
   simp only[go_sem]
  ·simp only[go_sem,(tN l h p hc x hx).ret];exact hK
 have hL:=at_ Tryz.func212
 conv at hL=>rhs;reduce
 refine aH hL rfl rfl ?_
 simp only[go_sem,kK,kZ hc.one hc.cells,hc.snap,(aV0 l _ _ hl hd).ret];rw[<-bQp,bQq]
theorem aYy (l:List bJ)(h:Val)(p:bJ->Bool)(hl:Few l.length)(hc:dJ L (fun x:bJ=> .agg [.i x.port,.i x.n]) h p l):
  PC L 322 [.fz (l.map bJ.enc),h] (.i (idxOf p l 0)):=by
 have hL:=at_ Tryz.func322
 conv at hL=>rhs;reduce
 refine aH hL rfl rfl ?_
 simp only[go_sem,kK]
 refine bH (l.length) (fun k st=> ∃fr en cnt,st=⟨fr,en,cnt⟩/\ (fr 0= .fz (l.map bJ.enc))/\ (fr 1=h)/\ (fr 7= .i l.length)/\ (fr 8= .i k)/\ (idxOf p (l.drop k) k=idxOf p l 0)) 0 (bOf _) ⟨_,_,_,rfl,(by first|(simp only[go_sem];(try rfl);done)|rfl|simp),(by first|(simp only[go_sem];(try rfl);done)|rfl|simp),(by first|(simp only[go_sem];(try rfl);done)|rfl|simp),(by first|(simp only[go_sem];(try rfl);done)|rfl|simp),(by first|(simp only[go_sem];(try rfl);done)|rfl|simp)⟩ ?_
 rintro k st hk ⟨fr,en,cnt,rfl,h0,h1,h7,h8,hI⟩
 simp only[go_sem,kK,h7,h8]
 refine aD (fun hq=>?_) (fun hq=>?_)
 ·have h':k<l.length:=of_decide_eq_true hq;rw[bO9 h',idxOf]at hI;simp only[go_sem,h',h0,h1,h8]
  refine hc.call l[k] (bOg _) _ _ ?_
  simp only[go_sem,kK]
  refine aD (fun hb=>?_) (fun hb=>?_)
  ·simp only[go_sem,kK];rw[hb,if_pos rfl]at hI;rw[<-hI]
  ·simp only[go_sem,h8];rw[hb]at hI
   simp at hI
   refine⟨_,_,_,rfl,?_⟩
   simp only[go_sem,h0,h1,h7,aQ h' hl];exact hI
 ·have:k=l.length:=by simp at hq;omega
  subst this;simp only[go_sem];rw[<-hI];simp[idxOf]
theorem aV1 (l:List bJ)(h:Val)(p:bJ->Bool)(hl:Few l.length)(hc:dJ L (fun x:bJ=> .agg [.i x.port,.i x.n]) h p l):
  PC L 262 [.fz (l.map bJ.enc),h] (.bool (l.any p)):=by
 have hL:=at_ Tryz.func262
 conv at hL=>rhs;reduce
 refine aH hL rfl rfl ?_
 simp only[go_sem,kK,hc.snap,hc.wk,(aYy l h p hl hc).ret];rw[<-mX p l 0]
theorem tO (l:List bJ)(h:Val)(p:bJ->Bool)(hc:dJ L (fun x:bJ=> .agg [.i x.port,.i x.n]) h p l)(x:bJ)(hx:x∈l):
  PC L 263 [.agg [.i x.port,.i x.n],.fp [h] 0] (.bool (!p x)):=by
 have hL:=at_ Tryz.func263
 conv at hL=>rhs;reduce
 refine aH hL rfl rfl ?_
 simp only[go_sem,kK]
 refine hc.call x hx _ _ ?_
 simp only[go_sem]
theorem wL (l:List bJ)(h:Val)(p:bJ->Bool)(hl:Few l.length)(hc:dJ L (fun x:bJ=> .agg [.i x.port,.i x.n]) h p l):
  PC L 215 [.fz (l.map bJ.enc),h] (.bool (l.all p)):=by
 have hd:dJ L (fun x:bJ=> .agg [.i x.port,.i x.n]) (.fn 263 [] [.fp [h] 0]) (fun x=>!p x) l:=by
  refine⟨fun n en hn=>?_,rfl,rfl,rfl,fun x hx en K hK=>?_⟩
  ·obtain⟨m,rfl⟩: ∃m,n=m+4:=⟨n-4,by omega⟩
   simp only[go_sem]
  ·simp only[go_sem,(tO l h p hc x hx).ret];exact hK
 have hL:=at_ Tryz.func215
 conv at hL=>rhs;reduce
 refine aH hL rfl rfl ?_
 simp only[go_sem,kK,kZ hc.one hc.cells,hc.snap,(aV1 l _ _ hl hd).ret];rw[<-bQp,bQq]
theorem iU (n lo hi:Int):PC L 120 [.i n,.i lo,.i hi] (.bool (inR n lo hi)):=by
 have hL:=at_ Tryz.func120
 conv at hL=>rhs;reduce
 refine aH hL rfl rfl ?_
 simp only[go_sem,qW]
 refine bB (fun h=>?_) (fun h=>?_)<;>simp only[go_sem,h]<;>simp at h<;>simp[h,inR]
 omega
theorem fG (n:Int):PC L 217 [.i n] (.bool (inR n (-1000000000) 1000000000)):=by
 have hL:=at_ Tryz.func217
 conv at hL=>rhs;reduce
 refine aH hL rfl rfl ?_
 simp only[go_sem,kK,(iU _ _ _).ret]
theorem rY (n:aL):PC L 222 [.agg [.i n.op,.i n.n,.fz (n.kids.map (.int .i64)),.fz (n.pats.map Pat.enc)]] (.i n.asks):=by
 have hL:=at_ Tryz.func222
 conv at hL=>rhs;reduce
 refine aH hL rfl rfl ?_
 simp only[go_sem,kK]
 repeat' ((first|with_reducible refine aD (fun h=>?_) (fun h=>?_)|with_reducible refine aG (fun h=>?_) (fun h=>?_))<;>(try simp only[bRt,bRu]at h)<;>try simp only[go_sem,kK,h])
 all_goals simp[aL.asks, *]
theorem zV (p:aI)(w:aB)(v:aE)(hp:p.few)(hw:w.few):PC L 255 [.fp [.fz (p.nodes.map aL.enc),.fz (p.funs.map (.int .i64)),.i p.main,.fz (p.cons.map cD.enc),.fz (w.objs.map aR.enc),.fz (w.tasks.map (.int .i64)),.fz (w.outs.map bJ.enc),.fz (w.ins.map (.int .i64)),.i w.used] 0,.agg [.i v.kind,.i v.n]] (.bool (dD p w v)):=by
 have hL:=at_ Tryz.func255
 conv at hL=>rhs;reduce
 refine aH hL rfl rfl ?_
 simp only[go_sem,kK]
 repeat' ((first|with_reducible refine aD (fun h=>?_) (fun h=>?_)|with_reducible refine aG (fun h=>?_) (fun h=>?_))<;>(try simp only[bRt,bRu]at h)<;>try simp only[go_sem,kK,h,(iU _ _ _).ret,(fG _).ret,dN hp.funs,dN hw.objs])
 all_goals simp[dD, *]
theorem aFd (p:aI)(w:aB)(hp:p.few)(hw:w.few)(l:List aE):dJ L (fun x:aE=> .agg [.i x.kind,.i x.n]) (.fn 255 [.fp [.fz (p.nodes.map aL.enc),.fz (p.funs.map (.int .i64)),.i p.main,.fz (p.cons.map cD.enc),.fz (w.objs.map aR.enc),.fz (w.tasks.map (.int .i64)),.fz (w.outs.map bJ.enc),.fz (w.ins.map (.int .i64)),.i w.used] 0] []) (dD p w) l:=by
 refine⟨fun n en hn=>?_,rfl,rfl,rfl,fun x hx en K hK=>?_⟩
 ·obtain⟨m,rfl⟩: ∃m,n=m+4:=⟨n-4,by omega⟩
  simp only[go_sem]
 ·simp only[go_sem,(zV p w x hp hw).ret];exact hK
theorem aJi (l:List Int)(hl:Few l.length):PC L 218 [.is l] (.bool (mH l 50)):=by
 have ask:dJ L (fun x:Int=> .i x) (.fn 217 [] []) (fun n=>inR n (-1000000000) 1000000000) l:=by
  refine⟨fun n en hn=>?_,rfl,rfl,rfl,fun x hx en K hK=>?_⟩
  ·obtain⟨m,rfl⟩: ∃m,n=m+4:=⟨n-4,by omega⟩
   simp only[go_sem]
  ·simp only[go_sem,(fG x).ret];exact hK
 have hL:=at_ Tryz.func218
 conv at hL=>rhs;reduce
 refine aH hL rfl rfl ?_
 simp only[go_sem,kK]
 refine aG (fun h=>?_) (fun h=>?_)
 ·simp only[go_sem,kK,h,(yM l _ _ hl ask).ret]
  simp at h;simp[mH,h]
 ·simp only[go_sem,kK,h]
  simp at h;simp[mH];intros;omega
theorem wM (o:bJ):PC L 216 [.agg [.i o.port,.i o.n]] (.bool (uN o)):=by
 have hL:=at_ Tryz.func216
 conv at hL=>rhs;reduce
 refine aH hL rfl rfl ?_
 simp only[go_sem,kK,(iU _ _ _).ret]
 refine aG (fun h=>?_) (fun h=>?_)<;>simp only[go_sem,kK,h,(fG _).ret]<;>simp[uN,h]
theorem zW (p:aI)(w:aB)(f:aA)(hp:p.few)(hw:w.few)(hf:f.few):PC L 317 [.fp [.fz (p.nodes.map aL.enc),.fz (p.funs.map (.int .i64)),.i p.main,.fz (p.cons.map cD.enc),.fz (w.objs.map aR.enc),.fz (w.tasks.map (.int .i64)),.fz (w.outs.map bJ.enc),.fz (w.ins.map (.int .i64)),.i w.used] 0,.agg [.i f.node,.fz (f.env.map aE.enc),.fz (f.vals.map aE.enc)]] (.bool (dA p w f)):=by
 have hL:=at_ Tryz.func317
 conv at hL=>rhs;reduce
 refine aH hL rfl rfl ?_
 simp only[go_sem,kK];have e:=dN hp.nodes
 try(refine zK ?_ ?_;· decide)
 simp only[go_sem,kK,e,(iU _ _ _).ret]
 refine aG (fun h=>?_) (fun h=>?_)
 ·simp only[go_sem,kK,h]
  refine aG (fun h2=>?_) (fun h2=>?_)
  ·simp only[go_sem,kK,h,h2,bI,(rY _).ret]
   refine aG (fun h3=>?_) (fun h3=>?_)
   ·simp only[go_sem,kK,h3,(kN _ _ _ hf.1 (aFd p w hp hw _)).ret]
    refine aG (fun h4=>?_) (fun h4=>?_)
    ·simp only[go_sem,kK,h4,(kN _ _ _ hf.2 (aFd p w hp hw _)).ret]
     simp at h2 h3 h4
     simp[dA,bE,h,h2,h3];intros;simp_all
    ·simp only[go_sem,kK,h4]
     simp at h2 h3 h4
     obtain⟨x,hx,hx2⟩:=h4;simp[dA,bE,h,h2,h3];intro hh;rw[hh x hx]at hx2;cases hx2
   ·simp only[go_sem,kK,h3]
    simp at h2 h3
    simp[dA,bE,h,h2];intros;omega
  ·simp only[go_sem,kK,h2]
   simp at h2
   simp[dA,bE,h];intros;omega
 ·simp only[go_sem,kK,h]
  simp at h
  simp[dA,h]
theorem aBh (p:aI)(w:aB)(f:aA)(hn:inR f.node 0 (p.nodes.length-1)=true):PC L 318 [.fp [.fz (p.nodes.map aL.enc),.fz (p.funs.map (.int .i64)),.i p.main,.fz (p.cons.map cD.enc),.fz (w.objs.map aR.enc),.fz (w.tasks.map (.int .i64)),.fz (w.outs.map bJ.enc),.fz (w.ins.map (.int .i64)),.i w.used] 0,.agg [.i f.node,.fz (f.env.map aE.enc),.fz (f.vals.map aE.enc)]] (.bool (eV p f)):=by
 have hL:=at_ Tryz.func318
 conv at hL=>rhs;reduce
 refine aH hL rfl rfl ?_
 simp only[go_sem,kK]
 refine zK ?_ ?_
 ·decide
 simp only[go_sem,hn,bI,(rY _).ret];simp[eV]
theorem pV (p:aI)(w:aB)(l:List aA)(m:Nat)(hp:p.few)(hw:w.few)(hl:Few l.length)(hf: ∀f∈l,f.few)(hm:m<=1):
  PC L 256 [.fp [.fz (p.nodes.map aL.enc),.fz (p.funs.map (.int .i64)),.i p.main,.fz (p.cons.map cD.enc),.fz (w.objs.map aR.enc),.fz (w.tasks.map (.int .i64)),.fz (w.outs.map bJ.enc),.fz (w.ins.map (.int .i64)),.i w.used] 0,.fz (l.map aA.enc),.i m] (.bool (bV p w l&&(l.take (l.length-m)).all (eV p))):=by
 have ask1:dJ L (fun x:aA=> .agg [.i x.node,.fz (x.env.map aE.enc),.fz (x.vals.map aE.enc)]) (.fn 317 [.fp [.fz (p.nodes.map aL.enc),.fz (p.funs.map (.int .i64)),.i p.main,.fz (p.cons.map cD.enc),.fz (w.objs.map aR.enc),.fz (w.tasks.map (.int .i64)),.fz (w.outs.map bJ.enc),.fz (w.ins.map (.int .i64)),.i w.used] 0] []) (dA p w) l:=by
  refine⟨fun n en hn=>?_,rfl,rfl,rfl,fun x hx en K hK=>?_⟩
  ·obtain⟨m,rfl⟩: ∃m,n=m+4:=⟨n-4,by omega⟩
   simp only[go_sem]
  ·simp only[go_sem,(zW p w x hp hw (hf x hx)).ret];exact hK
 have hL:=at_ Tryz.func256
 conv at hL=>rhs;reduce
 refine aH hL rfl rfl ?_
 simp only[go_sem,kK]
 refine aG (fun h=>?_) (fun h=>?_)
 ·simp only[go_sem,kK,h,(nD _ _ _ hl ask1).ret]
  refine aG (fun h2=>?_) (fun h2=>?_)
  ·have hok:bV p w l=true:=by simp at h h2;simp[bV,h];exact h2
   have ask2:dJ L (fun x:aA=> .agg [.i x.node,.fz (x.env.map aE.enc),.fz (x.vals.map aE.enc)]) (.fn 318 [.fp [.fz (p.nodes.map aL.enc),.fz (p.funs.map (.int .i64)),.i p.main,.fz (p.cons.map cD.enc),.fz (w.objs.map aR.enc),.fz (w.tasks.map (.int .i64)),.fz (w.outs.map bJ.enc),.fz (w.ins.map (.int .i64)),.i w.used] 0] []) (eV p) (l.take (l.length-m)):=by
    refine⟨fun n en hn=>?_,rfl,rfl,rfl,fun x hx en K hK=>?_⟩
    ·obtain⟨m,rfl⟩: ∃m,n=m+4:=⟨n-4,by omega⟩
     simp only[go_sem]
    ·simp only[go_sem,(aBh p w x (nM hok x (bQr hx))).ret];exact hK
   have k1:=aDq hok;have e1:IntKind.i64.wrap ((l.length:Int)-m)=(l.length:Int)-m:=aY (by omega)
   have e2:max (0:Int) ((l.length:Int)-m)=((l.length-m:Nat):Int):=by omega
   simp only[go_sem,kK,h2,e1,e2,tH,Nat.sub_le,<-bP0,(nD _ _ _ (aI1 hl _) ask2).ret];simp[hok]
  ·simp only[go_sem,kK,h2];have:bV p w l=false:=by
    rw[<-bPf];intro hh;simp only[bV,bN8]at hh;rw[hh.2]at h2;simp at h2
   simp[this]
 ·simp only[go_sem,kK,h];have:bV p w l=false:=by simp at h;simp[bV];intros;omega
  simp[this]
def aLy (p:aI)(w:aB)(o:aR):Bool:=
 if o.n=0 then(if(1:Int)<o.vals.length \/((o.frames.length:Int)=0/\ (o.vals.length:Int)=0)then false else bV p w o.frames&&(o.frames.take (o.frames.length-(1-o.vals.length))).all (eV p))
 else if o.n=1 then decide ((o.vals.length:Int)=1)&&decide ((o.frames.length:Int)=0)
 else if o.n=2 \/o.n=3 \/o.n=4 then decide ((o.vals.length:Int)=0)&&decide ((o.frames.length:Int)=0)else false
theorem aBi (p:aI)(w:aB)(o:aR)(hp:p.few)(hw:w.few)(ho:o.few):PC L 257 [.fp [.fz (p.nodes.map aL.enc),.fz (p.funs.map (.int .i64)),.i p.main,.fz (p.cons.map cD.enc),.fz (w.objs.map aR.enc),.fz (w.tasks.map (.int .i64)),.fz (w.outs.map bJ.enc),.fz (w.ins.map (.int .i64)),.i w.used] 0,.agg [.i o.form,.i o.n,.fz (o.vals.map aE.enc),.fz (o.frames.map aA.enc)]] (.bool (aLy p w o)):=by
 have hL:=at_ Tryz.func257
 conv at hL=>rhs;reduce
 refine aH hL rfl rfl ?_
 simp only[go_sem,kK]
 refine aD (fun h0=>?_) (fun h0=>?_)<;>simp only[bRt,bRu]at h0
 ·simp only[go_sem,kK]
  repeat' ((first|with_reducible refine aD (fun h=>?_) (fun h=>?_)|with_reducible refine aG (fun h=>?_) (fun h=>?_))<;>(try simp only[bRt,bRu,bOn,bOs]at h)<;>try simp only[go_sem,kK, *])
  all_goals try(simp[aLy, *];done)
  all_goals
   have hv:o.vals.length<=1:=by omega
   have e:IntKind.i64.wrap (1-(o.vals.length:Int))=((1-o.vals.length:Nat):Int):=by rw[aY (by omega)];omega
   simp only[go_sem,e,(pV p w o.frames (1-o.vals.length) hp hw ho.2.1 ho.2.2 (by omega)).ret]
   rw[aLy,if_pos h0,if_neg (by omega)]
 ·simp only[go_sem,kK]
  repeat' ((first|with_reducible refine aD (fun h=>?_) (fun h=>?_)|with_reducible refine aG (fun h=>?_) (fun h=>?_))<;>(try simp only[bRt,bRu,bOn]at h)<;>try simp only[go_sem,kK,h])
  all_goals simp[aLy, *]
  all_goals (intros;simp_all)
def aJj (p:aI)(w:aB)(o:aR):Bool:=
 if o.form=1 then decide ((o.frames.length:Int)=0)&&inR o.n 0 (p.cons.length-1)&&decide ((o.vals.length:Int)=(p.cons.getD o.n.toNat default).args)
 else if o.form=2 then decide ((o.frames.length:Int)=0)&&inR o.n 0 (p.nodes.length-1)&&decide ((p.node o.n).op=5)&&decide ((o.vals.length:Int)<=30)
 else if o.form=3 then decide ((o.frames.length:Int)=0)&&decide (o.n=0)&&decide ((o.vals.length:Int)=1)
 else if o.form=4 then decide ((o.frames.length:Int)=0)&&decide (o.n=0)&&decide ((o.vals.length:Int)<=4)
 else if o.form=5 then decide (o.n=0)&&decide ((o.vals.length:Int)=0)&&decide ((0:Int)<o.frames.length)&&(bV p w o.frames&&o.frames.all (eV p))&&decide ((p.node (o.frames.headD default).node).op=26)
 else if o.form=6 then aLy p w o else false
def aQm (p:aI)(w:aB)(o:aR):Bool:=o.vals.all (dD p w)&&aJj p w o
theorem aYz (p:aI)(w:aB)(o:aR)(hc: ∀c∈p.cons,c.args<=3):aQm p w o=dK p w o:=by
 have hargs:inR o.n 0 (p.cons.length-1)=true->(p.cons.getD o.n.toNat default).args<=3:=by
  intro h;simp only[inR,bRt]at h;have:o.n.toNat<p.cons.length:=by omega
  rw[bOd,bPh this];exact hc _ (bOg _)
 have vok: ∀m:Int,(o.vals.length:Int)<=m->bE p w o.vals m=o.vals.all (dD p w):=by intro m h;simp[bE,h]
 have vno: ∀m:Int,m<(o.vals.length:Int)->bE p w o.vals m=false:=by intro m h;simp[bE];intros;omega
 generalize hV:o.vals.all (dD p w)=V at vok;have nilV:o.vals.length=0->V=true:=by intro h;rw[<-hV,bRn.1 h];rfl
 simp only[aQm,dK,hV]
 by_cases h6:o.form=6
 ·simp only[h6,if_true,aJj,jU,aLy];simp only[show¬(6:Int)=1 by decide,show¬(6:Int)=2 by decide,show¬(6:Int)=3 by decide,show¬(6:Int)=4 by decide,show¬(6:Int)=5 by decide,if_false]
  by_cases h0:o.n=0
  ·simp only[h0,if_true]
   by_cases h1:(1:Int)<o.vals.length
   ·simp[h1,vno 1 h1]
   ·rw[vok 1 (by omega)]
    by_cases h2:(o.frames.length:Int)=0/\ (o.vals.length:Int)=0
    ·simp only[h2];simp[]
    ·rw[if_neg (by omega)]
     have:(0:Int)<o.frames.length+o.vals.length:=by omega
     have e:o.frames.length-(1-o.vals.length)=o.frames.length+o.vals.length-1:=by omega
     simp only[this,decide_true,e];cases V<;>cases bV p w o.frames<;>simp
  ·simp only[h0,if_false]
   by_cases h1:o.n=1
   ·simp only[h1,if_true]
    by_cases hl:(o.vals.length:Int)=1
    ·rw[vok 1 (by omega)];simp only[hl,decide_true,bO3,bQa];cases V<;>simp
    ·simp only[hl,decide_false,bPp,bOx]
   ·simp only[h1,if_false];split
    ·by_cases hl:(o.vals.length:Int)=0
     ·have:=nilV (by omega);simp only[this,hl,decide_true,bO3,bQa]
     ·simp only[hl,decide_false,bPp,bOx]
    ·simp
 ·simp only[h6,if_false,aJj]
  by_cases h5:o.form=5
  ·simp only[h5,if_true];simp only[show¬(5:Int)=1 by decide,show¬(5:Int)=2 by decide,show¬(5:Int)=3 by decide,show¬(5:Int)=4 by decide,if_false]
   by_cases hl:(o.vals.length:Int)=0
   ·have:=nilV (by omega)
    simp only[this,bO3,Bool.and_assoc]
   ·simp only[hl,decide_false,bPp,bOx]
  ·simp only[h5,if_false]
   by_cases hf:(o.frames.length:Int)=0
   ·simp only[hf,not_true,if_false,decide_true,bO3]
    by_cases h1:o.form=1
    ·simp only[h1,if_true];cases hin:inR o.n 0 (p.cons.length-1)with
     |false=>simp
     |true=>
      have ha:=hargs hin
      by_cases hl:(o.vals.length:Int)=(p.cons.getD o.n.toNat default).args
      ·rw[vok 3 (by omega)];simp only[hl,decide_true,bO3,bQa]
      ·simp only[hl,decide_false,bPp,bOx]
    ·simp only[h1,if_false]
     by_cases h2:o.form=2
     ·simp only[h2,if_true]
      by_cases hl:(o.vals.length:Int)<=30
      ·rw[vok 30 hl];simp only[hl,decide_true,bQa];ac_rfl
      ·rw[vno 30 (by omega)];simp only[hl,decide_false,bPp]
     ·simp only[h2,if_false]
      by_cases h3:o.form=3
      ·simp only[h3,if_true]
       by_cases hl:(o.vals.length:Int)=1
       ·rw[vok 1 (by omega)];simp only[hl,decide_true,bQa];ac_rfl
       ·simp only[hl,decide_false,bPp,bOx]
      ·simp only[h3,if_false]
       by_cases h4:o.form=4
       ·simp only[h4,if_true]
        by_cases hl:(o.vals.length:Int)<=4
        ·rw[vok 4 hl];simp only[hl,decide_true,bQa];ac_rfl
        ·rw[vno 4 (by omega)];simp only[hl,decide_false,bPp]
       ·simp only[h4,if_false,bPp]
   ·simp only[hf,not_false_eq_true,if_true,decide_false,bOx]
    repeat' split
    all_goals simp
theorem yP (p:aI)(w:aB)(o:aR)(hp:p.few)(hw:w.few)(ho:o.few):PC L 213 [.fp [.fz (p.nodes.map aL.enc),.fz (p.funs.map (.int .i64)),.i p.main,.fz (p.cons.map cD.enc),.fz (w.objs.map aR.enc),.fz (w.tasks.map (.int .i64)),.fz (w.outs.map bJ.enc),.fz (w.ins.map (.int .i64)),.i w.used] 0,.agg [.i o.form,.i o.n,.fz (o.vals.map aE.enc),.fz (o.frames.map aA.enc)]] (.bool (aQm p w o)):=by
 have hL:=at_ Tryz.func213
 conv at hL=>rhs;reduce
 refine aH hL rfl rfl ?_
 simp only[go_sem,kK,(kN _ _ _ ho.1 (aFd p w hp hw _)).ret]
 refine aD (fun hv=>?_) (fun hv=>?_)
 ·have hv':o.vals.all (dD p w)=false:=by rw[<-bPg];exact hv
  simp only[go_sem,kK];rw[aQm,hv'];rfl
 ·have hv':o.vals.all (dD p w)=true:=by simpa using hv
  rw[aQm,hv',bO3];clear hv hv';simp only[go_sem,kK];have hfr:=pV p w o.frames 0 hp hw ho.2.1 ho.2.2 (by omega)
  simp only[Nat.sub_zero,bPt,Int.natCast_zero]at hfr
  repeat' ((first|with_reducible refine aD (fun h=>?_) (fun h=>?_)|with_reducible refine aG (fun h=>?_) (fun h=>?_))<;>(try simp only[bRt,bRu,bOn]at h)<;>try simp only[go_sem,kK, *,(iU _ _ _).ret,dN hp.nodes,dN hp.cons,bI,aE9,hfr.ret])
  all_goals try(simp[aJj, *];done)
  all_goals try(simp[aJj, *];intros;simp_all;done)
  ·rename_i g1 g2 g3 g4 g5 g6 g7 g8;have hpos:0<o.frames.length:=by omega
   have h2:=h;simp only[bN8]at h2;have hn:inR (o.frames.headD default).node 0 (p.nodes.length-1)=true:=nM h2.1 _ (by cases hh:o.frames with|nil=>simp[hh]at hpos|cons a l=>simp)
   simp only[go_sem,kK,aLu hpos,hn,bI];simp only[aJj,g5,g6,g7,h];simp[*]
  ·rename_i g1 g2 g3 g4 g5;have ht:=aBi p w o hp hw ho;rw[h]at ht;simp only[go_sem,ht.ret];simp only[aJj,h,if_true];simp
theorem aG3 (n:Nat):PC L 260 [.i n] (.fn 321 [] [.fp [.i n] 0]):=by
 have hL:=at_ Tryz.func260
 conv at hL=>rhs;reduce
 refine aH hL rfl rfl ?_
 simp only[go_sem,kK]
theorem aS4 (n:Nat)(hn:n<=1000):PC L 259 [.fn 321 [] [.fp [.i n] 0]] (.fz ((List.range n).map fun(i:Nat)=> .i i)):=by
 have hf:Few n:=by unfold Few;omega
 have hL:=at_ Tryz.func259
 conv at hL=>rhs;reduce
 refine aH hL rfl rfl ?_
 simp only[go_sem,kK];have hL:=at_ Tryz.func320
 conv at hL=>rhs;reduce
 refine bO hL rfl rfl ?_
 simp only[go_sem,kK,kZ (v:= .cl []) rfl rfl]
 refine zM (f:=321) (x:=[]) (y:=[.fp [.i n] 0]) ?_ ?_
 ·simp only[go_sem]
 intro fr0 key hfr0 hkey;have h2:fr0 2= .ptr ⟨0,2,0⟩ 0:=by rw[hfr0];simp only[go_sem]
 have hk1:key=⟨1,0,0⟩:=by rw[hkey];rfl
 subst hk1;clear hkey hfr0;have hL:=at_ Tryz.func321
 conv at hL=>rhs;reduce
 refine bO hL rfl rfl ?_
 simp only[go_sem,kK]
 refine bH n (fun k st=> ∃fr en cnt v,st=⟨fr,en,cnt⟩/\ fr 0= .yld ⟨1,0,0⟩/\ fr 4= .i n/\ fr 5= .i k/\ en ⟨1,0,0⟩=some (.loop fr0 [7] (.ops [o 5 (.mv (.t 7))]) (.block 1 (.ops [o 8 (.load false 1 (.t 2)),o 9 (.mv (.t 5)),o 10 (.bslice 1 1 [(.i 0)] [(0,(.t 9))]),o 11 (.append 1 (.t 8) (.t 10)),on (.store 1 (.t 2) (.t 11))])) .ready)/\ en ⟨0,2,0⟩=some (.box [v] false)/\ iZ en v 1 ((List.range k).map fun(i:Nat)=> .i i) [11]) 0 (bOf _) ⟨_,_,_,.cl [],rfl,by simp only[go_sem],by simp only[go_sem],by simp only[go_sem],by simp only[go_sem],by simp only[go_sem],iZ.nil _ _⟩ ?_
 rintro k st hk ⟨fr,en,cnt,v,rfl,h0,h4,h5,e1,e2,hm⟩
 simp only[go_sem,kK,h4,h5]
 refine aD (fun hq=>?_) (fun hq=>?_)
 ·have h':k<n:=of_decide_eq_true hq;simp only[go_sem,h',h0,h5]
  refine aM9 (fr:=fr0) (ps:=[7]) (a:=(.ops [o 5 (.mv (.t 7))])) (b:=(.block 1 (.ops [o 8 (.load false 1 (.t 2)),o 9 (.mv (.t 5)),o 10 (.bslice 1 1 [(.i 0)] [(0,(.t 9))]),o 11 (.append 1 (.t 8) (.t 10)),on (.store 1 (.t 2) (.t 11))]))) e1 rfl ?_
  simp only[go_sem,kK,h2,e1,e2]
  refine zL (D:=[11]) (xs:=(List.range k).map fun(i:Nat)=>Val.int .i64 i) (ys:=[.i k]) (rs:=[]) ?_ ?_ ?_ ?_ ?_
  ·simp only[go_sem];exact hm.keep fun t g ht=>by simp at ht;subst ht;simp only[go_sem]
  ·simp only[go_sem]
  ·rfl
  ·simp;omega
  ·intro v' en' cnt' hown hen hcnt;obtain⟨s1,s2⟩:=hown.shape;have k1:en' ⟨1,0,0⟩=some (.loop fr0 [7] (.ops [o 5 (.mv (.t 7))]) (.block 1 (.ops [o 8 (.load false 1 (.t 2)),o 9 (.mv (.t 5)),o 10 (.bslice 1 1 [(.i 0)] [(0,(.t 9))]),o 11 (.append 1 (.t 8) (.t 10)),on (.store 1 (.t 2) (.t 11))])) .busy):=by rw[hen 1 0 0 (.inl (by decide))];simp only[go_sem]
   have k2:en' ⟨0,2,0⟩=some (.box [v] false):=by rw[hen 0 2 0 (.inr ⟨by decide,by simp⟩)];simp only[go_sem,e2]
   simp only[go_sem,h2,s1,s2,k1,k2];simp only[go_sem,h5]
   refine⟨_,_,_,v',rfl,?_⟩
   simp only[go_sem,h0,h4,aQ h' hf]
   refine iZ.sub (D:=[11,11]) (iZ.keep (en:=en') ?_ ?_) (by simp)
   ·rw[bPn];exact hown
   ·intro t g ht;simp at ht;subst ht;simp only[go_sem]
 ·have:k=n:=by simp at hq;omega
  subst this;simp only[go_sem,e1];obtain⟨r,ks,s1,s2,_⟩:=aQj (hm.keep (en':=en.set ⟨1,0,0⟩ none) fun t g ht=>by simp at ht;subst ht;simp only[go_sem])
  simp only[go_sem,e2,s1,s2]
theorem zX (n:Int): ∀ks:List Int,(∃i,findKey .num (.i n) (ks.map (.int .i64))=some (some i)/\ (ks.any fun x=>decide (x=n))=true/\ (ks.map (Val.int .i64)).set i (.i n)=ks.map (.int .i64)/\ i<ks.length) \/
  (findKey .num (.i n) (ks.map (.int .i64))=some none/\ (ks.any fun x=>decide (x=n))=false)
 |[]=> .inr ⟨rfl,rfl⟩
 |x::ks=>by
  have he:oQ .num (.i n) (.i x)=some (n==x):=by simp[oQ]
  by_cases h:n=x
  ·subst h
   refine .inl ⟨0,?_,by simp,by simp,by simp⟩
   simp only[bO4,findKey,he,beq_self_eq_true]
  ·have hb:(n==x)=false:=by simpa using h
   have hx:decide (x=n)=false:=by simp;exact fun e=>h e.symm
   rcases zX n ks with⟨i,h1,h2,h3,h4⟩|⟨h1,h2⟩
   ·refine .inl ⟨i+1,?_,?_,by simp[h3],by simp;exact h4⟩
    ·simp only[bO4,findKey,he,hb,h1]
    ·simp only[List.any_cons,hx,bO6];exact h2
   ·refine .inr ⟨?_,?_⟩
    ·simp only[bO4,findKey,he,hb,h1]
    ·simp only[List.any_cons,hx,bO6];exact h2
theorem aLz (n:Int)(ks:List Int):aCd .num (.bool false) false (.i n) (ks.map (.int .i64)) (ks.map fun _=> .bool true)=some (.bool (ks.any fun x=>decide (x=n))):=by
 unfold aCd;rcases zX n ks with⟨i,h1,h2,_,h4⟩|⟨h1,h2⟩
 ·simp[h1,h2,bOd,h4]
 ·simp[h1,h2]
def aHf (w:aB)(ks:List Int):Bool:=(List.range w.objs.length).all fun i=>(ks.any fun x=>decide (x=(i:Int)))||!cN (w.obj i)
def zY (w:aB):Bool:=bM w [] w.tasks&&aHf w w.tasks
theorem wN (p:aI)(w:aB)(ks:List Int)(i:Nat)(hi:i<w.objs.length):
  PC L 261 [.i i,.fp [.fm (ks.map (.int .i64)) (ks.map fun _=> .bool true)] 0,.fp [.fp [.fz (p.nodes.map aL.enc),.fz (p.funs.map (.int .i64)),.i p.main,.fz (p.cons.map cD.enc),.fz (w.objs.map aR.enc),.fz (w.tasks.map (.int .i64)),.fz (w.outs.map bJ.enc),.fz (w.ins.map (.int .i64)),.i w.used] 0] 0] (.bool ((ks.any fun x=>decide (x=(i:Int)))||!cN (w.obj i))):=by
 have hin:inR (i:Int) 0 (w.objs.length-1)=true:=by simp[inR];omega
 have hL:=at_ Tryz.func261
 conv at hL=>rhs;reduce
 refine aH hL rfl rfl ?_
 simp only[go_sem,kK,aLz]
 refine aG (fun h=>?_) (fun h=>?_)
 ·simp only[go_sem,kK,h,xL,hin];simp[cN]
 ·simp only[go_sem,kK,h,bOs];simp
variable {k:Key}
theorem aY0 :Val.one (.mp k)=true:=(rfl)
theorem aQn :Val.cells (.mp k)=[.mp k]:=(rfl)
variable {en:En}{n:Nat}
theorem bC9 :snapD (n+1) en (.mp k)=(match en k with
   |some (.map ks vs _)=>some (.fm ks vs,[k])
   |_=>none):=(rfl)
theorem zZ (p:aI)(w:aB)(hw:w.few)(hn:w.objs.length<=1000):PC L 214 [.fp [.fz (p.nodes.map aL.enc),.fz (p.funs.map (.int .i64)),.i p.main,.fz (p.cons.map cD.enc),.fz (w.objs.map aR.enc),.fz (w.tasks.map (.int .i64)),.fz (w.outs.map bJ.enc),.fz (w.ins.map (.int .i64)),.i w.used] 0] (.bool (zY w)):=by
 have e:=dN hw.objs;have hL:=at_ Tryz.func214
 conv at hL=>rhs;reduce
 refine aH hL rfl rfl ?_
 simp only[go_sem,kK,kZ (v:= .fp [.fz (p.nodes.map aL.enc),.fz (p.funs.map (.int .i64)),.i p.main,.fz (p.cons.map cD.enc),.fz (w.objs.map aR.enc),.fz (w.tasks.map (.int .i64)),.fz (w.outs.map bJ.enc),.fz (w.ins.map (.int .i64)),.i w.used] 0) rfl rfl,aY0,aQn]
 refine bH w.tasks.length (fun k st=> ∃fr en cnt,st=⟨fr,en,cnt⟩/\ fr 1= .ptr ⟨0,1,0⟩ 0/\ en ⟨0,1,0⟩=some (.box [.fp [.fz (p.nodes.map aL.enc),.fz (p.funs.map (.int .i64)),.i p.main,.fz (p.cons.map cD.enc),.fz (w.objs.map aR.enc),.fz (w.tasks.map (.int .i64)),.fz (w.outs.map bJ.enc),.fz (w.ins.map (.int .i64)),.i w.used] 0] false)/\ fr 3= .ptr ⟨0,3,0⟩ 0/\ en ⟨0,3,0⟩=some (.box [.mp ⟨0,6,0⟩] false)/\
  en ⟨0,6,0⟩=some (.map ((w.tasks.take k).map (.int .i64)) ((w.tasks.take k).map fun _=> .bool true) false)/\ fr 11= .is w.tasks/\ fr 12= .i w.tasks.length/\ fr 13= .i k/\ bM w (w.tasks.take k) (w.tasks.drop k)=bM w [] w.tasks) 0 (bOf _)
  ⟨_,_,_,rfl,by simp only[go_sem],by simp only[go_sem],by simp only[go_sem],by simp only[go_sem],by simp only[go_sem],by simp only[go_sem],by simp only[go_sem],by simp only[go_sem],rfl⟩ ?_
 rintro k st hk ⟨fr,en,cnt,rfl,h1,e1,h3,e3,e6,h11,h12,h13,hI⟩
 simp only[go_sem,kK,h12,h13]
 refine aD (fun hq=>?_) (fun hq=>?_)
 ·have h':k<w.tasks.length:=of_decide_eq_true hq;rw[bO9 h',bM]at hI;simp only[go_sem,kK,h',h1,e1,h11,h13,(iU _ _ _).ret,e]
  refine aG (fun hb=>?_) (fun hb=>?_)
  ·simp at hb
   simp only[go_sem,kK,hb,bOn,h1,e1,xL]
   refine aG (fun hc=>?_) (fun hc=>?_)
   ·have hc':cN (w.obj w.tasks[k])=true:=by simpa[cN]using hc
    simp only[go_sem,kK,hc,h3,e3,e6,aLz]
    refine aD (fun hd=>?_) (fun hd=>?_)
    ·simp only[go_sem,kK];rw[hb,hc',hd]at hI;rw[zY,<-hI];rfl
    ·rw[hb,hc',hd]at hI;simp only[bOs,bO3]at hI;rcases zX w.tasks[k] (w.tasks.take k)with⟨i,f1,f2,_⟩|⟨f1,_⟩
     ·rw[hd]at f2;cases f2
     ·simp only[go_sem,h3,e3,e6,h13,f1]
      refine⟨_,_,_,rfl,?_⟩
      simp only[go_sem,h1,e1,h3,e3,h11,h12,iP h',bPn,aQ h' hw.tasks];exact hI
   ·have hc':cN (w.obj w.tasks[k])=false:=by simp at hc;simp[cN,hc]
    simp only[go_sem,kK,hc];rw[hb,hc']at hI;rw[zY,<-hI];rfl
  ·simp at hb
   simp only[go_sem,kK,hb,bOs];rw[hb]at hI;rw[zY,<-hI];rfl
 ·have:k=w.tasks.length:=by simp at hq;omega
  subst this;rw[bPt]at e6 hI;rw[bP1,bM]at hI;have hp: ∀i:Nat,i<w.objs.length->PC L 261 [.i i,.fp [.fm (w.tasks.map (.int .i64)) (w.tasks.map fun _=> .bool true)] 0,.fp [.fp [.fz (p.nodes.map aL.enc),.fz (p.funs.map (.int .i64)),.i p.main,.fz (p.cons.map cD.enc),.fz (w.objs.map aR.enc),.fz (w.tasks.map (.int .i64)),.fz (w.outs.map bJ.enc),.fz (w.ins.map (.int .i64)),.i w.used] 0] 0] (.bool ((w.tasks.any fun x=>decide (x=(i:Int)))||!cN (w.obj i))):=fun i hi=>wN p w w.tasks i hi
  have ask:dJ L (fun x:Int=> .i x) (.fn 261 [] [.fp [.fm (w.tasks.map (.int .i64)) (w.tasks.map fun _=> .bool true)] 0,.fp [.fp [.fz (p.nodes.map aL.enc),.fz (p.funs.map (.int .i64)),.i p.main,.fz (p.cons.map cD.enc),.fz (w.objs.map aR.enc),.fz (w.tasks.map (.int .i64)),.fz (w.outs.map bJ.enc),.fz (w.ins.map (.int .i64)),.i w.used] 0] 0]) (fun j=>(w.tasks.any fun x=>decide (x=j))||!cN (w.obj j)) ((List.range w.objs.length).map fun(i:Nat)=>(i:Int)):=by
   refine⟨fun n en hn=>?_,rfl,rfl,rfl,fun x hx en K hK=>?_⟩
   ·obtain⟨m,rfl⟩: ∃m,n=m+4:=⟨n-4,by omega⟩
    simp only[go_sem]
   ·obtain⟨i,hi,rfl⟩:=bO5.1 hx;simp only[go_sem,(hp i (by simpa using hi)).ret]
    exact hK
  have hall:=yM _ _ _ (by simpa using hw.objs) ask
  have he:List.map (Val.int .i64) ((List.range w.objs.length).map fun(i:Nat)=>(i:Int))=(List.range w.objs.length).map fun(i:Nat)=>Val.int .i64 i:=by simp
  rw[he]at hall;simp only[go_sem,h1,e1,h3,e3,e6,(aG3 _).ret,(aS4 _ hn).ret,bC9,hall.ret];rw[zY,<-hI,bO3,aHf,List.all_map];rfl
theorem aDx : ∀(l N:List Nat),l.Nodup->(∀x∈l,x∈N)->l.length<=N.length
 |[],N,_,_=>bOf _
 |x::l,N,hn,hs=>by
  have hx:x∈N:=hs x (by simp)
  rw[List.nodup_cons]at hn;have:=aDx l (N.erase x) hn.2 fun y hy=>by
   rw[List.mem_erase_of_ne (by rintro rfl;exact hn.1 hy)]
   exact hs y (by simp[hy])
  rw[List.length_erase_of_mem hx]at this;have:=List.length_pos_of_mem hx;simp only[bOh];omega
def tP (w:aB):List Nat:=(List.range w.objs.length).filter fun(i:Nat)=>cN (w.obj (i:Int))
theorem xS (w:aB):(tP w).length=w.objs.countP cN:=by
 have h:w.objs=(List.range w.objs.length).map fun(i:Nat)=>w.obj (i:Int):=by
  refine List.ext_getElem (by simp) fun i h1 h2=>?_
  simp[aB.obj,bOd,h1]
 conv=>rhs;rw[h,List.countP_map]
 rw[tP,List.countP_eq_length_filter];rfl
theorem aAa (w:aB): ∀(l met:List Int),bM w met l=true->(∀x∈l,inR x 0 (w.objs.length-1)=true/\ cN (w.obj x)=true)/\ (l.map Int.toNat).Nodup/\ ∀x∈l,x∉met
 |[],met,_=>by simp
 |x::l,met,h=>by
  simp only[bM,bN8]at h;obtain⟨⟨⟨h1,h2⟩,h3⟩,h4⟩:=h;obtain⟨k1,k2,k3⟩:=aAa w l (met++[x]) h4;have hxm:x∉met:=by
   intro hm;simp only[bPg,List.any_eq_false]at h3;exact absurd (h3 x hm) (by simp)
  refine⟨fun y hy=>?_,?_,fun y hy=>?_⟩
  ·rcases bO8.1 hy with rfl|hy
   ·exact⟨h1,h2⟩
   ·exact k1 y hy
  ·rw[bO4,List.nodup_cons]
   refine⟨fun hm=>?_,k2⟩
   obtain⟨y,hy,he⟩:=bO5.1 hm;have a:=(k1 y hy).1;simp only[inR,bRt]at a h1;have:y=x:=by omega
   subst this;exact k3 y hy (by simp)
  ·rcases bO8.1 hy with rfl|hy
   ·exact hxm
   ·exact fun hm=>k3 y hy (by simp[hm])
theorem aS5 (w:aB):zY w=jL w:=by
 unfold zY jL;cases hd:bM w [] w.tasks with
 |false=>simp
 |true=>
  obtain⟨k1,k2,_⟩:=aAa w _ _ hd;have hsub: ∀x∈w.tasks.map Int.toNat,x∈tP w:=by
   intro x hx;obtain⟨y,hy,rfl⟩:=bO5.1 hx;obtain⟨a,b⟩:=k1 y hy;have a':=a;simp only[inR,bRt]at a'
   refine bPy.2 ⟨bO7.2 (by omega),?_⟩
   rw[bRl a'.1];exact b
  have hle:=aDx _ _ k2 hsub;rw[xS,bOc]at hle;simp only[bO3,bQa];have hcov:aHf w w.tasks=true↔ ∀x∈tP w,x∈w.tasks.map Int.toNat:=by
   simp only[aHf,bOe,bO7,bPe,bPg,tP,bPy,bQ8,bRt];constructor
   ·rintro h x ⟨hx,ht⟩
    rcases h x hx with⟨y,hy,he⟩|hf
    ·exact bO5.2 ⟨y,hy,by omega⟩
    ·rw[ht]at hf;cases hf
   ·intro h x hx;cases ht:cN (w.obj (x:Int))with
    |false=>exact .inr rfl
    |true=>
     obtain⟨y,hy,he⟩:=bO5.1 (h x ⟨hx,ht⟩);have a:=(k1 y hy).1;simp only[inR,bRt]at a;exact .inl ⟨y,hy,by omega⟩
  rw[bQh,hcov,bRt];constructor
  ·intro h;have hN:(tP w).Nodup:=List.Pairwise.filter _ List.nodup_range;have:=aDx _ _ hN h;rw[xS,bOc]at this;omega
  ·intro he x hx
   by_cases hm:x∈w.tasks.map Int.toNat
   ·exact hm
   ·exfalso
    have:=aDx (x::w.tasks.map Int.toNat) (tP w) (List.nodup_cons.2 ⟨hm,k2⟩) fun y hy=>by
     rcases bO8.1 hy with rfl|hy
     ·exact hx
     ·exact hsub y hy
    rw[xS,bOh,bOc]at this;omega
def vH (p:aI)(w:aB):Bool:=
 decide ((w.objs.length:Int)<=120)&&w.objs.all (aQm p w)&&zY w&&decide ((w.outs.length:Int)<=100)&&w.outs.all uN&&mH w.ins 50&&inR w.used 0 1000000000
theorem qX (p:aI)(w:aB)(hp:p.few)(hw:w.few):PC L 167 [.fp [.fz (p.nodes.map aL.enc),.fz (p.funs.map (.int .i64)),.i p.main,.fz (p.cons.map cD.enc),.fz (w.objs.map aR.enc),.fz (w.tasks.map (.int .i64)),.fz (w.outs.map bJ.enc),.fz (w.ins.map (.int .i64)),.i w.used] 0] (.bool (vH p w)):=by
 have ask:dJ L (fun x:aR=> .agg [.i x.form,.i x.n,.fz (x.vals.map aE.enc),.fz (x.frames.map aA.enc)]) (.fn 213 [.fp [.fz (p.nodes.map aL.enc),.fz (p.funs.map (.int .i64)),.i p.main,.fz (p.cons.map cD.enc),.fz (w.objs.map aR.enc),.fz (w.tasks.map (.int .i64)),.fz (w.outs.map bJ.enc),.fz (w.ins.map (.int .i64)),.i w.used] 0] []) (aQm p w) w.objs:=by
  refine⟨fun n en hn=>?_,rfl,rfl,rfl,fun x hx en K hK=>?_⟩
  ·obtain⟨m,rfl⟩: ∃m,n=m+4:=⟨n-4,by omega⟩
   simp only[go_sem]
  ·simp only[go_sem,(yP p w x hp hw (hw.obj x hx)).ret];exact hK
 have ask2:dJ L (fun x:bJ=> .agg [.i x.port,.i x.n]) (.fn 216 [] []) uN w.outs:=by
  refine⟨fun n en hn=>?_,rfl,rfl,rfl,fun x hx en K hK=>?_⟩
  ·obtain⟨m,rfl⟩: ∃m,n=m+4:=⟨n-4,by omega⟩
   simp only[go_sem]
  ·simp only[go_sem,(wM x).ret];exact hK
 have hL:=at_ Tryz.func167
 conv at hL=>rhs;reduce
 refine aH hL rfl rfl ?_
 simp only[go_sem,kK]
 refine aG (fun h1=>?_) (fun h1=>?_)
 ·have hn:w.objs.length<=1000:=by simp at h1;omega
  have ht:=zZ p w hw hn;simp only[go_sem,kK,h1,(wK _ _ _ hw.objs ask).ret]
  refine aG (fun h2=>?_) (fun h2=>?_)
  ·simp only[go_sem,kK,h2,ht.ret]
   refine aG (fun h3=>?_) (fun h3=>?_)
   ·simp only[go_sem,kK,h3]
    refine aG (fun h4=>?_) (fun h4=>?_)
    ·simp only[go_sem,kK,h4,(wL _ _ _ hw.outs ask2).ret]
     refine aG (fun h5=>?_) (fun h5=>?_)
     ·simp only[go_sem,kK,h5,(aJi _ hw.ins).ret]
      refine aG (fun h6=>?_) (fun h6=>?_)
      ·simp only[go_sem,kK,h6,(iU _ _ _).ret];simp only[vH,h1,h2,h3,h4,h5,h6,bO3]
      ·simp only[go_sem,kK,h6,bOn];simp only[vH,h1,h2,h3,h4,h5,h6,bOn,bO3,bOx]
     ·simp only[go_sem,kK,h5,bOn];simp only[vH,h1,h2,h3,h4,h5,bOn,bO3,bOx,bPp]
    ·simp only[go_sem,kK,h4,bOn];simp only[vH,h1,h2,h3,h4,bOn,bO3,bOx,bPp]
   ·simp only[go_sem,kK,h3,bOn];simp only[vH,h1,h2,h3,bOn,bO3,bOx,bPp]
  ·simp only[go_sem,kK,h2,bOn];simp only[vH,h1,h2,bOn,bOx,bPp]
 ·simp only[go_sem,kK,h1,bOn];simp only[vH,h1,bOn,bOx]
theorem aQo {p:aI}(h:eY p=true): ∀c∈p.cons,c.args<=3:=by
 intro c hc;simp only[eY,xM,bN8]at h;have:=bOe.1 h.1.2.1.1 c hc;simp only[uP,inR,bN8,bRt]at this;omega
theorem aJk (p:aI)(w:aB)(h:eY p=true):vH p w=dO p w:=by
 have:w.objs.all (aQm p w)=w.objs.all (dK p w):=by
  congr 1;funext o;exact aYz p w o (aQo h)
 simp only[vH,dO,this,aS5]
 ac_rfl
theorem aK1 (p:aI)(w:aB)(hp:p.few)(hw:w.few)(hs:aV p=true):PC L 95 [.agg p.cs,.agg w.cs] (.i (if iJ p w then 0 else 2)):=by
 have hrun: ∃r,PC L 119 [.agg p.cs,.agg w.cs] (.tup [r,.bool (iJ p w)])/\ pC r=false/\ (∀n en,6<=n->snapD n en r=some (r,[])):=by
  cases hf:eY p with
  |false=>
   refine⟨.nilp,?_,rfl,fun n en hn=>?_⟩
   ·have hL:=at_ Tryz.func119
    conv at hL=>rhs;reduce
    refine aH hL rfl rfl ?_
    have hb:=vG p hp hs;rw[hf]at hb;simp only[go_sem,kK,hb.ret];simp[iJ,hf]
   ·obtain⟨m,rfl⟩: ∃m,n=m+1:=⟨n-1,by omega⟩
    rfl
  |true=>
   refine⟨.fp [.fz (p.nodes.map aL.enc),.fz (p.funs.map (.int .i64)),.i p.main,.fz (p.cons.map cD.enc),.fz (w.objs.map aR.enc),.fz (w.tasks.map (.int .i64)),.fz (w.outs.map bJ.enc),.fz (w.ins.map (.int .i64)),.i w.used] 0,?_,rfl,fun n en hn=>?_⟩
   ·have hL:=at_ Tryz.func119
    conv at hL=>rhs;reduce
    refine aH hL rfl rfl ?_
    have hb:=vG p hp hs;rw[hf]at hb;simp only[go_sem,kK,hb.ret,(qX p w hp hw).ret];rw[aJk p w hf];simp[iJ,hf]
   ·obtain⟨m,rfl⟩: ∃m,n=m+1:=⟨n-1,by omega⟩
    rfl
 obtain⟨r,hr,hr1,hr2⟩:=hrun;have hL:=at_ Tryz.func95
 conv at hL=>rhs;reduce
 refine aH hL rfl rfl ?_
 simp only[go_sem,kK,hr.ret];cases hg:iJ p w<;>simp only[go_sem,kK,bOn,bOs]
theorem bBc {L:bG}{c:bA}{st:St}{Q:Ex->St->Prop}(M:St->Prop)(h:Wp L c st fun e st'=>e= .normal/\ M st')(k: ∀fr en cnt,M ⟨fr,en,cnt⟩->Q .normal ⟨fr,en,cnt⟩):Wp L c st Q:=
 Go.Abs.wp_mono c h fun e s hs=>by obtain⟨rfl,hs⟩:=hs;exact k _ _ _ hs
variable {xs cs:List Val}
theorem bBd :(Val.agg (.fz xs::cs)).flat=false:=(rfl)
theorem aV2 :W.apply en (.frz k)=(match en k with
  |some e=>en.set k (some e.freeze)
  |none=>en):=(rfl)
variable {f:Bool}
theorem bBe :Ent.freeze (.blk n cs f)= .blk n cs true:=(rfl)
theorem bBf :Ent.freeze (.box cs f)= .box cs true:=(rfl)
set_option maxRecDepth 100000
set_option maxHeartbeats 4000000
def rO (size:Nat):List Val->Val
 |[]=> .cl []
 |x::xs=> .own size (x::xs)
variable {b:Bool}
theorem vJ :cZ .eql .slice (.es b) (.es true)=some (.bool b):=(rfl)
theorem aDy {x:Val}:cZ .eql .slice (.fz (x::xs)) (.es true)=some (.bool false):=(rfl)
variable {size:Nat}
section
variable {L :bG}{fr:Nat->Val}{cnt:Nat->Nat->Nat}{Q:St->Prop}{l:List aM}{d:Nat}{x y:Opd}
theorem qY (hx:St.get fr x= .cl [])(hy:St.get fr y= .es b)(k:iM L l ⟨jB fr d (.cl []),en,cnt⟩ Q):iM L (⟨some d,.append size x y,none⟩::l) ⟨fr,en,cnt⟩ Q:=by
 rw[aPp (by rfl)]
 simp only[bOz,cO,eval,fD,hx,hy,iC,cP,if_true,List.isEmpty_nil,aLn,fF];exact k
theorem pJ {z:Val}{zs:List Val}(hx:St.get fr x= .cl [])(hy:St.get fr y= .fz (z::zs))(h1:cP size (z::zs)=true)(hl:(z::zs).length<=16777216)
  (k:iM L l ⟨jB fr d (.bl ⟨0,d,cnt 0 d⟩ 0 (z::zs).length),en.set ⟨0,d,cnt 0 d⟩ (some (.blk size (z::zs) false)),aC cnt 0 d (cnt 0 d+1)⟩ Q):iM L (⟨some d,.append size x y,none⟩::l) ⟨fr,en,cnt⟩ Q:=by
 rw[aPp (by rfl)]
 have he:iC en (.fz (z::zs))=some (z::zs,[]):=aYd;simp only[bOz,cO,eval,fD,hx,hy,he,h1,if_true,List.isEmpty_cons,bOa,if_false];rw[if_pos ⟨by simpa using hl,rfl⟩]
 simp only[aE6,jS,fF,wE,bOo,bO1,bPb];exact k
end
theorem aDz (xs:List Val)(h1:cP 1 xs=true)(hl:xs.length<=16777216):PC L 115 [.fz xs] (rO 1 xs):=by
 cases xs with
 |nil=>
  have hL:=at_ Tryz.func115
  conv at hL=>rhs;reduce
  refine aIo hL rfl rfl (.inl rfl) (oZ ?_) (oZ ?_)
  ·simp only[go_sem,kK,vJ];rfl
  ·simp only[go_sem,kK,vJ]
   refine qY (b:=false) (by simp only[go_sem]) (by simp only[go_sem]) ?_
   simp only[go_sem];rfl
 |cons x xs=>
  have hL:=at_ Tryz.func115
  conv at hL=>rhs;reduce
  refine aH hL rfl rfl ?_
  simp only[go_sem,kK,aDy]
  refine pJ (by simp only[go_sem]) (by simp only[go_sem]) h1 hl ?_
  simp only[go_sem];rfl
theorem aNt (xs:List Val)(h1:cP 2 xs=true)(hl:xs.length<=16777216):PC L 116 [.fz xs] (rO 2 xs):=by
 cases xs with
 |nil=>
  have hL:=at_ Tryz.func116
  conv at hL=>rhs;reduce
  refine aIo hL rfl rfl (.inl rfl) (oZ ?_) (oZ ?_)
  ·simp only[go_sem,kK,vJ];rfl
  ·simp only[go_sem,kK,vJ]
   refine qY (b:=false) (by simp only[go_sem]) (by simp only[go_sem]) ?_
   simp only[go_sem];rfl
 |cons x xs=>
  have hL:=at_ Tryz.func116
  conv at hL=>rhs;reduce
  refine aH hL rfl rfl ?_
  simp only[go_sem,kK,aDy]
  refine pJ (by simp only[go_sem]) (by simp only[go_sem]) h1 hl ?_
  simp only[go_sem];rfl
theorem aD0 (xs:List Val)(h1:cP 2 xs=true)(hl:xs.length<=16777216):PC L 117 [.fz xs] (rO 2 xs):=by
 cases xs with
 |nil=>
  have hL:=at_ Tryz.func117
  conv at hL=>rhs;reduce
  refine aIo hL rfl rfl (.inl rfl) (oZ ?_) (oZ ?_)
  ·simp only[go_sem,kK,vJ];rfl
  ·simp only[go_sem,kK,vJ]
   refine qY (b:=false) (by simp only[go_sem]) (by simp only[go_sem]) ?_
   simp only[go_sem];rfl
 |cons x xs=>
  have hL:=at_ Tryz.func117
  conv at hL=>rhs;reduce
  refine aH hL rfl rfl ?_
  simp only[go_sem,kK,aDy]
  refine pJ (by simp only[go_sem]) (by simp only[go_sem]) h1 hl ?_
  simp only[go_sem];rfl
theorem oK (h:xs≠[]):rO size xs= .own size xs:=by cases xs<;>first|rfl|exact absurd rfl h
theorem aQp (l:List aE):cP 2 (l.map aE.enc)=true:=by cases l<;>rfl
theorem aQq (l:List bJ):cP 2 (l.map bJ.enc)=true:=by cases l<;>rfl
theorem aGi (l:List Int):cP 1 (l.map (Val.int .i64))=true:=by cases l<;>rfl
variable {k':Key}
theorem aY1 :jH (.frz k) (.val k')=true:=rfl
theorem aY2 {o:Nat}:jH (.frz k) (.cells k' o n)=true:=rfl
theorem aY3 :lV (.frz k) (.frz k')=true:=rfl
theorem aY4 {e:Option Ent}:lV (.frz k) (.ent k' e)=decide (k≠k'):=rfl
variable {vs:List Val}
theorem aY5 {o:Nat}:lV (.frz k) (.cells k' o vs)=decide (k≠k'):=rfl
theorem aY6 :jH (.frz k) (.flag k')=decide (k≠k'):=rfl
theorem aV3 {o:Nat}:lV (.cells k o vs) (.frz k')=decide (k≠k'):=rfl
theorem aY7 :(Val.fz xs).flat=false:=(rfl)
attribute [go_sem] aY1 aY2 aY3 aY4 aY5 aY6 aV3 aY7 bBd aV2 bBe bBf
theorem pE {xs:List Val}:(Val.cl xs).one=true:=(rfl)
theorem kO {xs:List Val}:(Val.cl xs).cells=[.cl xs]:=(rfl)
theorem tQ {k:Key}{a b:Nat}:(Val.bl k a b).one=true:=(rfl)
theorem mK {k:Key}{a b:Nat}:(Val.bl k a b).cells=[.bl k a b]:=(rfl)
theorem bBg {a b:IntKind}{i j:Int}:(Val.agg (.int a i:: .int b j:: .fz xs::cs)).flat=false:=(rfl)
theorem kB :type_of% @pE/\ type_of% @kO/\ type_of% @tQ/\ type_of% @mK:=⟨@pE,@kO,@tQ,@mK⟩
variable {t:Nat}
theorem bBh {g:Nat}(h:en ⟨0,t,g⟩=some (.blk size xs f))(hx:n=xs.length):iZ en (.bl ⟨0,t,g⟩ 0 n) size xs [t]:= .inr ⟨t,g,f,by rw[hx],h,by simp⟩
theorem aAb (size:Nat)(xs:List Val):(xs=[]/\ rO size xs= .cl []) \/(xs≠[]/\ rO size xs= .own size xs):=by
 cases xs with
 |nil=>exact .inl ⟨rfl,rfl⟩
 |cons x xs=>exact .inr ⟨by simp,rfl⟩
theorem aNu {α:Type}{f:α->Val}{l:List α}:(l.map f).take l.length=l.map f:=bOt (by simp)
theorem aS6 {w:aB}(h:cR w=true):w.objs.length<=130/\ w.tasks.length<=130/\ w.outs.length<=110/\ w.ins.length<=60:=by
 simp only[cR,bN8,bRt]at h;omega
set_option maxRecDepth 100000
set_option maxHeartbeats 4000000
section
variable {α :Type}{f g:Nat->α}{k:Nat}
end
theorem aD1 (a b:List Int)(ha:Few a.length):PC L 164 [.is a,.is b] (.bool (decide (a=b))):=by
 have hL:=at_ Tryz.func164
 conv at hL=>rhs;reduce
 refine aH hL rfl rfl ?_
 simp only[go_sem,kK]
 refine aD (fun h=>?_) (fun h=>?_)
 ·simp only[go_sem,kK]
  simp at h
  have: ¬a=b:=by rintro rfl;exact h rfl
  simp[this]
 ·have hl:a.length=b.length:=by simp at h;exact h
  simp only[go_sem]
  refine bH (a.length) (fun k st=> ∃fr en cnt,st=⟨fr,en,cnt⟩/\ (fr 0= .is a)/\ (fr 1= .is b)/\ (fr 12= .i a.length)/\ (fr 13= .i k)/\ (a.take k=b.take k)) 0 (bOf _) ⟨_,_,_,rfl,(by first|(simp only[go_sem];(try rfl);done)|rfl|simp),(by first|(simp only[go_sem];(try rfl);done)|rfl|simp),(by first|(simp only[go_sem];(try rfl);done)|rfl|simp),(by first|(simp only[go_sem];(try rfl);done)|rfl|simp),(by first|(simp only[go_sem];(try rfl);done)|rfl|simp)⟩ ?_
  rintro k st hk ⟨fr,en,cnt,rfl,h0,h1,h12,h13,hI⟩
  simp only[go_sem,kK,h12,h13]
  refine aD (fun hq=>?_) (fun hq=>?_)
  ·have h':k<a.length:=of_decide_eq_true hq;have h'':k<b.length:=by omega
   simp only[go_sem,kK,h',h'',h0,h1,h13]
   refine aD (fun hb=>?_) (fun hb=>?_)
   ·simp only[go_sem,kK]
    simp at hb
    simp[aBt h' h'' hb]
   ·simp only[go_sem,h13]
    simp at hb
    refine⟨_,_,_,rfl,?_⟩
    simp only[go_sem,h0,h1,h12,aQ h' ha];exact qJ h' h'' hI hb
  ·have:k=a.length:=by simp at hq;omega
   subst this;simp only[go_sem];simp[qK hl hI]
theorem xT (a b:List aE)(ha:Few a.length):PC L 160 [.fz (a.map aE.enc),.fz (b.map aE.enc)] (.bool (decide (a=b))):=by
 refine aH bH4 rfl rfl ?_
 simp only[go_sem,kK,bC7]
 refine aD (fun h=>?_) (fun h=>?_)
 ·simp only[go_sem,kK]
  simp at h
  have: ¬a=b:=by rintro rfl;exact h rfl
  simp[this]
 ·have hl:a.length=b.length:=by simp at h;exact h
  simp only[go_sem]
  refine bH (a.length) (fun k st=> ∃fr en cnt,st=⟨fr,en,cnt⟩/\ (fr 0= .fz (a.map aE.enc))/\ (fr 1= .fz (b.map aE.enc))/\ (fr 12= .i a.length)/\ (fr 13= .i k)/\ (a.take k=b.take k)) 0 (bOf _) ⟨_,_,_,rfl,(by first|(simp only[go_sem];(try rfl);done)|rfl|simp),(by first|(simp only[go_sem];(try rfl);done)|rfl|simp),(by first|(simp only[go_sem];(try rfl);done)|rfl|simp),(by first|(simp only[go_sem];(try rfl);done)|rfl|simp),(by first|(simp only[go_sem];(try rfl);done)|rfl|simp)⟩ ?_
  rintro k st hk ⟨fr,en,cnt,rfl,h0,h1,h12,h13,hI⟩
  simp only[go_sem,kK,h12,h13]
  refine aD (fun hq=>?_) (fun hq=>?_)
  ·have h':k<a.length:=of_decide_eq_true hq;have h'':k<b.length:=by omega
   simp only[go_sem,kK,h',h'',h0,h1,h13,aE.eq_iff]
   refine aD (fun hb=>?_) (fun hb=>?_)
   ·simp only[go_sem,kK]
    simp at hb
    simp[aBt h' h'' hb]
   ·simp only[go_sem,h13]
    simp at hb
    refine⟨_,_,_,rfl,?_⟩
    simp only[go_sem,h0,h1,h12,aQ h' ha];exact qJ h' h'' hI hb
  ·have:k=a.length:=by simp at hq;omega
   subst this;simp only[go_sem];simp[qK hl hI]
theorem aA.eq_iff {a b:aA}:decide (a=b)=(decide (a.node=b.node)&&decide (a.env=b.env)&&decide (a.vals=b.vals)):=by
 cases a;cases b;simp[Bool.and_assoc]
theorem aR.eq_iff {a b:aR}:decide (a=b)=(decide (a.form=b.form)&&decide (a.n=b.n)&&decide (a.vals=b.vals)&&decide (a.frames=b.frames)):=by
 cases a;cases b;simp[Bool.and_assoc]
def aGj (en:En)(v:Val)(size:Nat)(xs:List Val)(t:Nat):Prop:=(v= .cl []/\ xs=[]) \/ ∃g,v= .bl ⟨0,t,g⟩ 0 xs.length/\ en ⟨0,t,g⟩=some (.blk size xs false)
theorem aGj.mine {v:Val}(h:aGj en v size xs t):iZ en v size xs [t]:=by
 rcases h with h|⟨g,h1,h2⟩
 ·exact .inl h
 ·exact .inr ⟨t,g,false,h1,h2,by simp⟩
theorem bE0 {a b:List Val}:cZ .neq .map (.fm a b) .nilm=some (.bool true):=(rfl)
theorem bBi {ks:List Val}{f:Bool}:Ent.freeze (.map ks vs f)= .map ks vs true:=(rfl)
theorem bBj {off:Nat}:eH (.agg cs) off vs= .agg (setCells cs off vs):=(rfl)
attribute [go_sem] bE0 bC9 bBi bBj aY0 aQn
end Go.Proofs.YtmnchlhngpdffaaGreat
namespace Go.Abs
structure lQ where
 task:Int
 act:Int
 n:Int
 v:aE
structure Did where
 w:aB
 what:Int
 e:lQ
def Did.enc (d:Did):Val:= .agg [.fz (d.w.objs.map aR.enc),.fz (d.w.tasks.map (.int .i64)),.fz (d.w.outs.map bJ.enc),.fz (d.w.ins.map (.int .i64)),.i d.w.used,.i d.what,.i d.e.task,.i d.e.act,.i d.e.n,.i d.e.v.kind,.i d.e.v.n]
def kR :aE:=⟨0,0⟩
def gR :lQ:=⟨0,0,0,kR⟩
def aY8 :aR:=⟨0,0,[],[]⟩
def eK :aA:=⟨0,[],[]⟩
def bL :aE:=⟨3,0⟩
def lR (n:Int):aE:=⟨1,n⟩
def mA (b:Bool):aE:=⟨2,if b=true then 1 else 0⟩
def dE (n:Int):aE:=⟨5,n⟩
def pW (v:aE):aE:=if v.kind=4 \/v.kind=5 then dE 0 else v
def bQ (w:aB)(a:Int):Int:=w.tasks.getD a.toNat 0
def dR (w:aB)(n:Int)(o:aR):aB:=⟨w.objs.set n.toNat o,w.tasks,w.outs,w.ins,w.used⟩
def dW (w:aB)(o:aR):aB:=⟨w.objs++[o],w.tasks,w.outs,w.ins,w.used⟩
def bD (w:aB)(a st:Int):Did:=⟨dR w (bQ w a) ⟨6,st,[],[]⟩,1,⟨a,0,st,kR⟩⟩
def bT (w:aB)(a:Int)(left:List aA)(v:aE):Did:=⟨dR w (bQ w a) ⟨6,0,[v],left⟩,0,gR⟩
def fT (w:aB)(a:Int)(left:List aA)(node:Int)(env:List aE):Did:=
 if 40<=left.length \/30<env.length then bD w a 4 else⟨dR w (bQ w a) ⟨6,0,[],left++[⟨node,env,[]⟩]⟩,0,gR⟩
def gS (w:aB)(a:Int)(left:List aA)(o:aR):Did:=if 120<=w.objs.length then bD w a 4 else bT (dW w o) a left (dE w.objs.length)
def cW (d:Did)(a act n:Int)(v:aE):Did:=if d.what=1 then d else⟨d.w,1,⟨a,act,n,pW v⟩⟩
def cV (w:aB)(v:aE)(form:Int):Bool:=decide (v.kind=5)&&decide ((w.obj v.n).form=form)
def bE1 (p:aI)(n:Int):Int:=p.funs.getD n.toNat 0
def nN (n:aL)(i:Int):Int:=n.kids.getD i.toNat 0
def eZ (p:aI)(w:aB)(f v:aE):Option aA:=
 if f.kind=4 then some ⟨bE1 p f.n,[v],[]⟩
 else if cV w f 2=true then some ⟨nN (p.node (w.obj f.n).n) 0,(w.obj f.n).vals++[v],[]⟩else none
def eL (p:aI)(w:aB)(a:Int)(left:List aA)(f v:aE):Did:=
 if cV w f 5=true then(if 40<(left++(w.obj f.n).frames).length then bD w a 4 else bT w a (left++(w.obj f.n).frames) v)
 else match eZ p w f v with
  |none=>bD w a 2
  |some b=>fT w a left b.node b.env
def pX (op x y:Int):Int:=if op=9 then x+y else if op=10 then x-y else if op=11 then x*y else 0
def cC (w:aB)(a:Int)(left:List aA)(op:Int)(u v:aE):Did:=
 if op=13 then(if¬u.kind=v.kind \/3<u.kind then bD w a 2 else bT w a left (mA (decide (u=v))))
 else if¬u.kind=1 \/ ¬v.kind=1 then bD w a 2
 else if op=12 then bT w a left (mA (decide (u.n<v.n)))
 else if inR (pX op u.n v.n) (-1000000000) 1000000000=true then bT w a left (lR (pX op u.n v.n))else bD w a 4
mutual
def fX (w:aB):Pat->aE->Option (List aE)
 | .mk f n _ ps,v=>
  if f=1 then some []
  else if f=2 then some [v]
  else if f=3 then(if v=lR n then some []else none)
  else if f=4 then(if v=mA (decide (n=1))then some []else none)
  else if f=5 then(if v=bL then some []else none)
  else if cV w v 1=true/\ (w.obj v.n).n=n/\ (w.obj v.n).vals.length=ps.length then gC w ps (w.obj v.n).vals else none
def gC (w:aB):List Pat->List aE->Option (List aE)
 |q::ps,v::vs=>match fX w q v with
  |none=>none
  |some l=>match gC w ps vs with
   |none=>none
   |some r=>some (l++r)
 |_,_=>some []
end
def jF (w:aB)(a:Int)(left:List aA)(kids:List Int)(env:List aE)(u:aE):Nat->List Pat->Did
 |_,[]=>bD w a 3
 |i,q::qs=>match fX w q u with
  |some l=>fT w a left (kids.getD (1+i) 0) (env++l)
  |none=>jF w a left kids env u (i+1) qs
def jM (w:aB)(a:Int)(left:List aA)(n:aL)(env:List aE)(u:aE):Did:=jF w a left n.kids env u 0 n.pats
def fN (p:aI)(left:List aA):Nat->Nat
 |0=>0
 |k+1=>if(p.node (left.getD k default).node).op=26 then k+1 else fN p left k
def eM (p:aI)(w:aB)(a:Int)(left:List aA)(kid:Int)(env:List aE):Did:=
 match fN p left left.length with
 |0=>bD w a 3
 |k+1=>
  if 120<=w.objs.length then bD w a 4
  else
   let d:=fT (dW w ⟨5,0,[],left.drop k⟩) a (left.take (k+1)) kid (env++[dE w.objs.length])
   if d.what=1 then bD w a d.e.n else d
def pK (w:aB):aB:=⟨w.objs,w.tasks++[(w.objs.length:Int)-1],w.outs,w.ins,w.used⟩
def yN (w:aB)(a:Int)(left:List aA)(o:aR):Did:=
 let d:=gS w a left o
 cW (if d.what=1 then d else⟨pK d.w,d.what,d.e⟩) a 19 0 bL
def dX (p:aI)(w:aB)(a:Int)(left:List aA)(f:aE):Did:=
 if cV w f 5=true then yN w a left ⟨6,0,[bL],(w.obj f.n).frames⟩
 else match eZ p w f bL with
  |none=>bD w a 2
  |some b=>if 30<b.env.length then bD w a 4 else yN w a left ⟨6,0,[],[b]⟩
def aF (l:List aE)(i:Nat):aE:=l.getD i kR
def eC (w:aB)(a:Int)(left:List aA)(op:Int)(l:List aE):Did:=
 if op=16 then cW (gS w a left ⟨3,0,[aF l 0],[]⟩) a op 0 (aF l 0)
 else if cV w (aF l 0) 3=true then
  (if op=17 then cW (bT w a left (aF (w.obj (aF l 0).n).vals 0)) a op 0 (aF (w.obj (aF l 0).n).vals 0)
  else cW (bT (dR w (aF l 0).n ⟨3,0,[aF l 1],[]⟩) a left bL) a op 0 (aF l 1))
 else bD w a 2
def lS (w:aB):Did:=⟨w,2,gR⟩
def bY (w:aB)(a:Int)(left:List aA)(op:Int)(l:List aE):Did:=
 if cV w (aF l 0) 4=true then
  (if op=22 then
   (if 4<=(w.obj (aF l 0).n).vals.length then lS w
   else cW (bT (dR w (aF l 0).n ⟨4,0,(w.obj (aF l 0).n).vals++[aF l 1],[]⟩) a left bL) a op 0 (aF l 1))
  else if(w.obj (aF l 0).n).vals.length=0 then lS w
  else cW (bT (dR w (aF l 0).n ⟨4,0,(w.obj (aF l 0).n).vals.drop 1,[]⟩) a left (aF (w.obj (aF l 0).n).vals 0)) a op 0 (aF (w.obj (aF l 0).n).vals 0))
 else bD w a 2
def fO (w:aB)(a:Int)(left:List aA)(v:aE):Did:=
 if cV w v 6=true then
  (if(w.obj v.n).n=0 then lS w
  else if¬(w.obj v.n).n=1 then bD w a (w.obj v.n).n
  else cW (bT w a left (aF (w.obj v.n).vals 0)) a 20 0 (aF (w.obj v.n).vals 0))
 else bD w a 2
def cX (w:aB)(a:Int)(left:List aA)(op port:Int)(l:List aE):Did:=
 if op=25 then
  (match w.ins with
  |[]=>lS w
  |x::xs=>if 1000000000<=w.used then bD w a 4 else cW (bT ⟨w.objs,w.tasks,w.outs,xs,w.used+1⟩ a left (lR x)) a op 0 (lR x))
 else if¬(aF l 0).kind=1 then bD w a 2
 else if 100<=w.outs.length then bD w a 4
 else cW (bT ⟨w.objs,w.tasks,w.outs++[⟨port,(aF l 0).n⟩],w.ins,w.used⟩ a left bL) a op port (aF l 0)
def bR (p:aI)(w:aB)(a:Int)(left:List aA)(f:aA)(n:aL):Did:=
 if n.op=1 then bT w a left (lR n.n)
 else if n.op=2 then bT w a left (mA (decide (n.n=1)))
 else if n.op=3 then bT w a left bL
 else if n.op=4 then(if n.n<0 then bT w a left ⟨4,-1-n.n⟩else if(f.env.length:Int)<=n.n then bD w a 2 else bT w a left (aF f.env n.n.toNat))
 else if n.op=5 then gS w a left ⟨2,f.node,f.env,[]⟩
 else if n.op=6 then eL p w a left (aF f.vals 0) (aF f.vals 1)
 else if n.op=7 then fT w a left (nN n 1) (f.env++[aF f.vals 0])
 else if n.op=8 then(if¬(aF f.vals 0).kind=2 then bD w a 2 else fT w a left (nN n (2-(aF f.vals 0).n)) f.env)
 else if n.op=9 \/n.op=10 \/n.op=11 \/n.op=12 \/n.op=13 then cC w a left n.op (aF f.vals 0) (aF f.vals 1)
 else if n.op=14 then gS w a left ⟨1,n.n,f.vals,[]⟩
 else if n.op=15 then jM w a left n f.env (aF f.vals 0)
 else if n.op=26 then bT w a left (aF f.vals 0)
 else if n.op=27 then eM p w a left (nN n 0) f.env
 else if n.op=16 \/n.op=17 \/n.op=18 then eC w a left n.op f.vals
 else if n.op=19 then dX p w a left (aF f.vals 0)
 else if n.op=20 then fO w a left (aF f.vals 0)
 else if n.op=21 then cW (gS w a left ⟨4,0,[],[]⟩) a 21 0 bL
 else if n.op=22 \/n.op=23 then bY w a left n.op f.vals
 else if n.op=24 \/n.op=25 then cX w a left n.op n.n f.vals
 else cW (bT w a left bL) a 28 0 bL
def rS (p:aI)(w:aB)(a:Int)(left:List aA)(f:aA):Did:=bR p w a left f (p.node f.node)
def aBu (l:List aA)(v:aE):List aA:=l.set (l.length-1) ⟨(l.getD (l.length-1) eK).node,(l.getD (l.length-1) eK).env,(l.getD (l.length-1) eK).vals++[v]⟩
def cK (p:aI)(w:aB)(a:Int):Did:=
 let o:=w.obj (bQ w a)
 if¬o.n=0 then lS w
 else if o.vals.length=1 then
  (if o.frames.length=0 then⟨dR w (bQ w a) ⟨6,1,[aF o.vals 0],[]⟩,1,⟨a,0,1,pW (aF o.vals 0)⟩⟩
  else⟨dR w (bQ w a) ⟨6,0,[],aBu o.frames (aF o.vals 0)⟩,0,gR⟩)
 else
  let f:=o.frames.getD (o.frames.length-1) eK
  if(f.vals.length:Int)<(p.node f.node).asks then fT w a o.frames (nN (p.node f.node) f.vals.length) f.env
  else rS p w a (o.frames.take (o.frames.length-1)) f
end Go.Abs
namespace Go.Proofs.YtmnchlhngpdffaaGreat
open Go.Abs Go.Proofs
set_option maxRecDepth 100000
set_option maxHeartbeats 4000000
variable {size n:Nat}{rs:List R}{ys:List Val}{k:Key}
section
variable {L :bG}{fr:Nat->Val}{en:En}{cnt:Nat->Nat->Nat}{Q:St->Prop}{l:List aM}{d g:Nat}{dst:Option Nat}{get:Opd->Val}
def aK2 (d g:Nat)(en:En)(size:Nat)(x:Val)(s:Option (List Val×List R)):Option Res:=fD 0 d g en size x s
theorem dU {x y:Opd}:cO d g en get (.append size x y)=aK2 d g en size (get x) (iC en (get y)):=(rfl)
theorem mL :aK2 d g en size (.cl []) (some ([],rs))=some {v:= .cl [],rs}:=by simp[aK2,fD,cP]
theorem iN (h0:ys.isEmpty=false)(h1:cP size ys=true)(hl:ys.length<=16777216):
  aK2 d g en size (.cl []) (some (ys,rs))=some {v:= .bl ⟨0,d,g⟩ 0 ys.length,ws:=[.ent ⟨0,d,g⟩ (some (.blk size ys false))],rs,bump:=true}:=by
 have hz:cP size []=true:=rfl;simp[aK2,fD,h1,h0,hl,hz]
def aY9 (d g:Nat)(k:Key)(size n:Nat)(ys:List Val)(rs:List R)(e:Option Ent):Option Res:=
 match e with
 |some (.blk sz xs f)=>if(0+n=xs.length \/f=false/\ 0+n<=xs.length)/\ n+ys.length<=16777216/\ sz=size/\ (k.deep=true->0=3)then
      some {v:= .bl ⟨0,d,g⟩ 0 (n+ys.length),ws:=[.ent k none,.ent ⟨0,d,g⟩ (some (.blk size ((xs.take (0+n)).drop 0++ys) f))],rs:= .val k:: .flag k::rs,bump:=true}else none
 |_=>none
theorem tR (h1:cP size ys=true):aK2 d g en size (.bl k 0 n) (some (ys,rs))=aY9 d g k size n ys rs (en k):=by
 simp only[aK2,fD,h1,if_true];rfl
theorem kP {xs:List Val}{f:Bool}(hn:n=xs.length)(hl:n+ys.length<=16777216)(hd:k.deep=false):
  aY9 d g k size n ys rs (some (.blk size xs f))=some {v:= .bl ⟨0,d,g⟩ 0 (n+ys.length),ws:=[.ent k none,.ent ⟨0,d,g⟩ (some (.blk size (xs++ys) f))],rs:= .val k:: .flag k::rs,bump:=true}:=by
 subst hn;simp[aY9,hl,hd]
@[congr] theorem bE2 {e e':Option Ent}(h:e=e'):aY9 d g k size n ys rs e=aY9 d g k size n ys rs e':=by rw[h]
end
theorem xU (l:List aR):cP 4 (l.map aR.enc)=true:=by cases l<;>rfl
theorem aA6 (l:List Int):cP 1 (l.map (.int .i64))=true:=by cases l<;>rfl
theorem aNv (l:List bJ):cP 2 (l.map bJ.enc)=true:=by cases l<;>rfl
theorem rZ (l:List aE):cP 2 (l.map aE.enc)=true:=by cases l<;>rfl
theorem iQ (l:List aA):cP 3 (l.map aA.enc)=true:=by cases l<;>rfl
theorem aA7 {a b:Int}:cP 2 [.agg [.i a,.i b]]=true:=(rfl)
theorem gX {α:Type}{f:α->Val}{l:List α}:(l.map f).isEmpty=l.isEmpty:=by cases l<;>rfl
theorem aJl {α:Type}{l:List α}(h:0<l.length):l.isEmpty=false:=by cases l<;>simp at h⊢
theorem aJm (n:Int):PC L 176 [.i n] (.agg [.i (dE n).kind,.i (dE n).n]):=by
 have hL:=at_ Tryz.func176
 conv at hL=>rhs;reduce
 refine aH hL rfl rfl ?_
 simp only[go_sem,kK,dE]
theorem aCj (n:Int):PC L 52 [.i n] (.agg [.i (lR n).kind,.i (lR n).n]):=by
 have hL:=at_ Tryz.func52
 conv at hL=>rhs;reduce
 refine aH hL rfl rfl ?_
 simp only[go_sem,kK,lR]
theorem mB :PC L 180 [] (.agg [.i bL.kind,.i bL.n]):=by
 have hL:=at_ Tryz.func180
 conv at hL=>rhs;reduce
 refine aH hL rfl rfl ?_
 simp only[go_sem,kK,bL]
theorem aHg (b:Bool):PC L 179 [.bool b] (.agg [.i (mA b).kind,.i (mA b).n]):=by
 have hL:=at_ Tryz.func179
 conv at hL=>rhs;reduce
 refine aH hL rfl rfl ?_
 cases b<;>simp only[go_sem,kK,mA]
theorem aL0 (v:aE):PC L 127 [.agg [.i v.kind,.i v.n]] (.agg [.i (pW v).kind,.i (pW v).n]):=by
 obtain⟨k,n⟩:=v;have hL:=at_ Tryz.func127
 conv at hL=>rhs;reduce
 refine aH hL rfl rfl ?_
 by_cases h4:k=4
 ·subst h4;simp only[go_sem,kK,(aJm 0).ret,pW,true_or,dE]
 ·have g4:decide (k=4)=false:=decide_eq_false h4
  by_cases h5:k=5
  ·subst h5;simp only[go_sem,kK,(aJm 0).ret,pW,or_true,dE]
  ·have g5:decide (k=5)=false:=decide_eq_false h5;simp only[go_sem,kK,pW,h4,h5,or_self]
theorem aD2 (l:List aE)(v:aE)(hl:l.length<1000000):PC L 128 [.fz (l.map aE.enc),.agg [.i v.kind,.i v.n]] (.fz ((l++[v]).map aE.enc)):=by
 have hlen:l.length+1<=16777216:=by omega
 have hl1:l.length<=16777216:=by omega
 have hL:=at_ Tryz.func128
 conv at hL=>rhs;reduce
 refine aH hL rfl rfl ?_
 simp only[go_sem,kK]
 refine aJ ?_
 cases hl0:l.isEmpty with
 |true=>
  have:l=[]:=by simpa using hl0
  subst this;simp only[go_sem,bS,dU,mL,iN,List.isEmpty_cons,aA7,kA,bOa,if_false]
 |false=>
  simp only[go_sem,bS,dU,iN,tR,gX,hl0,hl1,hlen,kP,rZ,aA7,bOc,bOr,bQ9,bN9,bOt,bPn,kA,bOa,if_false]
  trace_state
end Go.Proofs.YtmnchlhngpdffaaGreat
namespace Go.Abs
inductive OpR where
 |go (ev:Option lQ) (w:aB) (left:List aA) (back:List aE)
 |wait
 |fail (s:Int)
def OpR.did (w:aB)(a:Int):OpR->Did
 | .go none w' left back=>⟨dR w' (bQ w' a) ⟨6,0,back,left⟩,0,gR⟩
 | .go (some e) w' left back=>⟨dR w' (bQ w' a) ⟨6,0,back,left⟩,1,e⟩
 | .wait=>lS w
 | .fail s=>bD w a s
def iF (w:aB)(left:List aA)(v:aE):OpR:= .go none w left [v]
def jN (w:aB)(a:Int)(left:List aA)(op n:Int)(v e:aE):OpR:= .go (some ⟨a,op,n,pW e⟩) w left [v]
def qZ (w:aB)(left l:List aA):OpR:=if 40<(left++l).length then .fail 4 else .go none w (left++l) []
def lJ (w:aB)(left:List aA)(node:Int)(env:List aE):OpR:=if 30<env.length then .fail 4 else qZ w left [⟨node,env,[]⟩]
def jC (w:aB)(o:aR)(k:aB->aE->OpR):OpR:=if 120<=w.objs.length then .fail 4 else k (dW w o) (dE w.objs.length)
def fB (w:aB)(left:List aA)(kids:List Int)(env:List aE)(u:aE):Nat->List Pat->OpR
 |_,[]=> .fail 3
 |i,q::qs=>match fX w q u with
  |some l=>lJ w left (kids.getD (1+i) 0) (env++l)
  |none=>fB w left kids env u (i+1) qs
def opR (p:aI)(w:aB)(a:Int)(left:List aA)(f:aA)(n:aL):OpR:=
 if n.op=1 then iF w left (lR n.n)
 else if n.op=2 then iF w left (mA (decide (n.n=1)))
 else if n.op=3 then iF w left bL
 else if n.op=4 then(if n.n<0 then iF w left ⟨4,-1-n.n⟩else if(f.env.length:Int)<=n.n then .fail 2 else iF w left (aF f.env n.n.toNat))
 else if n.op=5 then jC w ⟨2,f.node,f.env,[]⟩ fun w' v=>iF w' left v
 else if n.op=6 then
  (match eZ p w (aF f.vals 0) (aF f.vals 1)with
  |some b=>lJ w left b.node b.env
  |none=>if cV w (aF f.vals 0) 5=true then(if 40<(left++(w.obj (aF f.vals 0).n).frames).length then .fail 4 else .go none w (left++(w.obj (aF f.vals 0).n).frames) [aF f.vals 1])else .fail 2)
 else if n.op=7 then lJ w left (nN n 1) (f.env++[aF f.vals 0])
 else if n.op=8 then(if¬(aF f.vals 0).kind=2 then .fail 2 else lJ w left (nN n (2-(aF f.vals 0).n)) f.env)
 else if n.op=13 then(if¬(aF f.vals 0).kind=(aF f.vals 1).kind \/3<(aF f.vals 0).kind then .fail 2 else iF w left (mA (decide (aF f.vals 0=aF f.vals 1))))
 else if n.op=12 then(if¬(aF f.vals 0).kind=1 \/ ¬(aF f.vals 1).kind=1 then .fail 2 else iF w left (mA (decide ((aF f.vals 0).n<(aF f.vals 1).n))))
 else if n.op=9 \/n.op=10 \/n.op=11 then
  (if¬(aF f.vals 0).kind=1 \/ ¬(aF f.vals 1).kind=1 then .fail 2
  else if inR (pX n.op (aF f.vals 0).n (aF f.vals 1).n) (-1000000000) 1000000000=true then iF w left (lR (pX n.op (aF f.vals 0).n (aF f.vals 1).n))else .fail 4)
 else if n.op=14 then jC w ⟨1,n.n,f.vals,[]⟩ fun w' v=>iF w' left v
 else if n.op=15 then fB w left n.kids f.env (aF f.vals 0) 0 n.pats
 else if n.op=26 then iF w left (aF f.vals 0)
 else if n.op=27 then
  (match fN p left left.length with
  |0=> .fail 3
  |k+1=>jC w ⟨5,0,[],left.drop k⟩ fun w' v=>lJ w' (left.take (k+1)) (nN n 0) (f.env++[v]))
 else if n.op=16 then jC w ⟨3,0,[aF f.vals 0],[]⟩ fun w' v=>jN w' a left 16 0 v (aF f.vals 0)
 else if n.op=17 then(if cV w (aF f.vals 0) 3=true then jN w a left 17 0 (aF (w.obj (aF f.vals 0).n).vals 0) (aF (w.obj (aF f.vals 0).n).vals 0)else .fail 2)
 else if n.op=18 then(if cV w (aF f.vals 0) 3=true then jN (dR w (aF f.vals 0).n ⟨3,0,[aF f.vals 1],[]⟩) a left 18 0 bL (aF f.vals 1)else .fail 2)
 else if n.op=19 then
  (match eZ p w (aF f.vals 0) bL with
  |some b=>if 30<b.env.length then .fail 4 else jC w ⟨6,0,[],[b]⟩ fun w' v=>jN (pK w') a left 19 0 v bL
  |none=>if cV w (aF f.vals 0) 5=true then jC w ⟨6,0,[bL],(w.obj (aF f.vals 0).n).frames⟩ fun w' v=>jN (pK w') a left 19 0 v bL else .fail 2)
 else if n.op=20 then
  (if cV w (aF f.vals 0) 6=true then
   (if(w.obj (aF f.vals 0).n).n=0 then .wait
   else if¬(w.obj (aF f.vals 0).n).n=1 then .fail (w.obj (aF f.vals 0).n).n
   else jN w a left 20 0 (aF (w.obj (aF f.vals 0).n).vals 0) (aF (w.obj (aF f.vals 0).n).vals 0))
  else .fail 2)
 else if n.op=21 then jC w ⟨4,0,[],[]⟩ fun w' v=>jN w' a left 21 0 v bL
 else if n.op=22 then
  (if cV w (aF f.vals 0) 4=true then
   (if 4<=(w.obj (aF f.vals 0).n).vals.length then .wait
   else jN (dR w (aF f.vals 0).n ⟨4,0,(w.obj (aF f.vals 0).n).vals++[aF f.vals 1],[]⟩) a left 22 0 bL (aF f.vals 1))
  else .fail 2)
 else if n.op=23 then
  (if cV w (aF f.vals 0) 4=true then
   (if(w.obj (aF f.vals 0).n).vals.length=0 then .wait
   else jN (dR w (aF f.vals 0).n ⟨4,0,(w.obj (aF f.vals 0).n).vals.drop 1,[]⟩) a left 23 0 (aF (w.obj (aF f.vals 0).n).vals 0) (aF (w.obj (aF f.vals 0).n).vals 0))
  else .fail 2)
 else if n.op=24 then
  (if¬(aF f.vals 0).kind=1 then .fail 2
  else if 100<=w.outs.length then .fail 4
  else jN ⟨w.objs,w.tasks,w.outs++[⟨n.n,(aF f.vals 0).n⟩],w.ins,w.used⟩ a left 24 n.n bL (aF f.vals 0))
 else if n.op=25 then
  (match w.ins with
  |[]=> .wait
  |x::xs=>if 1000000000<=w.used then .fail 4 else jN ⟨w.objs,w.tasks,w.outs,xs,w.used+1⟩ a left 25 0 (lR x) (lR x))
 else jN w a left 28 0 bL bL
variable {a:Int}{left:List aA}{w:aB}
theorem xV {node:Int}{env:List aE}:fT w a left node env=(lJ w left node env).did w a:=by
 unfold fT lJ qZ;simp only[bOr,bOh,bOo]
 by_cases h1:30<env.length
 ·rw[if_pos (.inr h1),if_pos h1];rfl
 ·rw[if_neg h1]
  by_cases h2:40<=left.length
  ·rw[if_pos (.inl h2),if_pos (by omega)];rfl
  ·rw[if_neg (by omega),if_neg (by omega)];rfl
variable {op n:Int}{e v:aE}
theorem mZ {w0:aB}:cW (bT w a left v) a op n e=(jN w a left op n v e).did w0 a:=by
 have: ¬(bT w a left v).what=1:=by simp[bT]
 unfold cW;rw[if_neg this];rfl
theorem aJn {s:Int}:cW (bD w a s) a op n e=bD w a s:=by
 unfold cW;rw[if_pos (show(bD w a s).what=1 from rfl)]
theorem aQr {o:aR}:gS w a left o=(jC w o fun w' v=>iF w' left v).did w a:=by
 unfold gS jC
 split<;>rfl
theorem aL1 {o:aR}:cW (gS w a left o) a op n e=(jC w o fun w' v=>jN w' a left op n v e).did w a:=by
 unfold gS jC;split
 ·exact aJn
 ·exact mZ
theorem aGk {w:aB}{a:Int}{left:List aA}{kids:List Int}{env:List aE}{u:aE}: ∀(l:List Pat) (i:Nat),jF w a left kids env u i l=(fB w left kids env u i l).did w a
 |[],i=>by simp only[jF,fB];rfl
 |q::qs,i=>by
  simp only[jF,fB];cases fX w q u with
  |some l=>exact xV
  |none=>exact aGk qs (i+1)
theorem aQs {o:aR}(ha:inR a 0 ((w.tasks.length:Int)-1)=true):yN w a left o=(jC w o fun w' v=>jN (pK w') a left 19 0 v bL).did w a:=by
 unfold yN gS jC;split
 ·simp only
  rw[if_pos (show(bD w a 4).what=1 from rfl)]
  exact aJn
 ·have h1: ¬(bT (dW w o) a left (dE w.objs.length)).what=1:=by simp[bT]
  simp only
  rw[if_neg h1];unfold cW
  simp only
  rw[if_neg h1];simp only[inR,bRt]at ha;have ht:bQ (pK (dW w o)) a=bQ (dW w o) a:=by
   unfold bQ pK dW
   simp only
   rw[bOd,bOd,bRd (by omega)]
  simp only[jN,OpR.did,ht];simp only[bT,dR,pK,dW,bP9]
variable {p:aI}
theorem aJo {f:aE}(h:cV w f 5=true):eZ p w f v=none:=by
 simp only[cV,bN8,bRt]at h;unfold eZ;rw[if_neg (by rw[h.1];decide),if_neg (by simp only[cV,bN8,bRt];rw[h.2];rintro⟨_,h⟩;cases h)]
theorem aQt {f:aA}{n:aL}(ha:inR a 0 ((w.tasks.length:Int)-1)=true):bR p w a left f n=(opR p w a left f n).did w a:=by
 unfold bR opR
 by_cases h1:n.op=1
 ·rw[if_pos h1,if_pos h1];rfl
 rw[if_neg h1,if_neg h1]
 by_cases h2:n.op=2
 ·rw[if_pos h2,if_pos h2];rfl
 rw[if_neg h2,if_neg h2]
 by_cases h3:n.op=3
 ·rw[if_pos h3,if_pos h3];rfl
 rw[if_neg h3,if_neg h3]
 by_cases h4:n.op=4
 ·rw[if_pos h4,if_pos h4];split
  ·rfl
  ·split<;>rfl
 rw[if_neg h4,if_neg h4]
 by_cases h5:n.op=5
 ·rw[if_pos h5,if_pos h5];exact aQr
 rw[if_neg h5,if_neg h5]
 by_cases h6:n.op=6
 ·rw[if_pos h6,if_pos h6];unfold eL
  by_cases hk:cV w (aF f.vals 0) 5=true
  ·rw[if_pos hk,aJo hk];simp only[hk,if_true]
   split<;>rfl
  ·rw[if_neg hk];cases eZ p w (aF f.vals 0) (aF f.vals 1)with
   |none=>simp only[hk];rfl
   |some b=>exact xV
 rw[if_neg h6,if_neg h6]
 by_cases h7:n.op=7
 ·rw[if_pos h7,if_pos h7];exact xV
 rw[if_neg h7,if_neg h7]
 by_cases h8:n.op=8
 ·rw[if_pos h8,if_pos h8];split
  ·rfl
  ·exact xV
 rw[if_neg h8,if_neg h8]
 by_cases h13:n.op=13
 ·rw[if_pos (.inr (.inr (.inr (.inr h13)))),if_pos h13];unfold cC;rw[if_pos h13]
  split<;>rfl
 rw[if_neg h13]
 by_cases h12:n.op=12
 ·rw[if_pos (.inr (.inr (.inr (.inl h12)))),if_pos h12];unfold cC;rw[if_neg h13];split
  ·rfl
  ·rfl
 rw[if_neg h12]
 by_cases h9:n.op=9 \/n.op=10 \/n.op=11
 ·rw[if_pos (by rcases h9 with h|h|h<;>simp[h]),if_pos h9]
  unfold cC;rw[if_neg h13];split
  ·rfl
  ·split<;>rfl
 rw[if_neg (by simp only[not_or]at h9⊢;exact⟨h9.1,h9.2.1,h9.2.2,h12,h13⟩),if_neg h9]
 by_cases h14:n.op=14
 ·rw[if_pos h14,if_pos h14];exact aQr
 rw[if_neg h14,if_neg h14]
 by_cases h15:n.op=15
 ·rw[if_pos h15,if_pos h15];exact aGk _ _
 rw[if_neg h15,if_neg h15]
 by_cases h26:n.op=26
 ·rw[if_pos h26,if_pos h26];rfl
 rw[if_neg h26,if_neg h26]
 by_cases h27:n.op=27
 ·rw[if_pos h27,if_pos h27];unfold eM;cases fN p left left.length with
  |zero=>rfl
  |succ k=>
   simp only
   unfold jC;split
   ·rfl
   ·simp only
    rw[xV];unfold lJ qZ;split
    ·rfl
    ·split<;>rfl
 rw[if_neg h27,if_neg h27]
 by_cases h16:n.op=16
 ·rw[if_pos (.inl h16),if_pos h16];unfold eC;rw[if_pos h16,h16];exact aL1
 by_cases h17:n.op=17
 ·rw[if_pos (.inr (.inl h17)),if_neg h16,if_pos h17];unfold eC;rw[if_neg h16];split
  ·rw[h17];exact mZ
  ·rfl
 by_cases h18:n.op=18
 ·rw[if_pos (.inr (.inr h18)),if_neg h16,if_neg h17,if_pos h18];unfold eC;rw[if_neg h16];split
  ·rw[h18];exact mZ
  ·rfl
 rw[if_neg (by simp only[not_or];exact⟨h16,h17,h18⟩),if_neg h16,if_neg h17,if_neg h18]
 by_cases h19:n.op=19
 ·rw[if_pos h19,if_pos h19];unfold dX
  by_cases hk:cV w (aF f.vals 0) 5=true
  ·rw[if_pos hk,aJo hk];simp only[hk,if_true];exact aQs ha
  ·rw[if_neg hk];cases eZ p w (aF f.vals 0) bL with
   |none=>simp only[hk];rfl
   |some b=>
    simp only
    split
    ·rfl
    ·exact aQs ha
 rw[if_neg h19,if_neg h19]
 by_cases h20:n.op=20
 ·rw[if_pos h20,if_pos h20];unfold fO;split
  ·split
   ·rfl
   ·split
    ·rfl
    ·exact mZ
  ·rfl
 rw[if_neg h20,if_neg h20]
 by_cases h21:n.op=21
 ·rw[if_pos h21,if_pos h21];exact aL1
 rw[if_neg h21,if_neg h21]
 by_cases h22:n.op=22
 ·rw[if_pos (.inl h22),if_pos h22];unfold bY;split
  ·try rw[if_pos h22]
   split
   ·rfl
   ·rw[h22];exact mZ
  ·rfl
 by_cases h23:n.op=23
 ·rw[if_pos (.inr h23),if_neg h22,if_pos h23];unfold bY;split
  ·try rw[if_neg h22]
   split
   ·rfl
   ·rw[h23];exact mZ
  ·rfl
 rw[if_neg (by simp only[not_or];exact⟨h22,h23⟩),if_neg h22,if_neg h23]
 by_cases h24:n.op=24
 ·rw[if_pos (.inl h24),if_pos h24];unfold cX;rw[if_neg (by rw[h24];decide)]
  split
  ·rfl
  ·split
   ·rfl
   ·rw[h24];exact mZ
 by_cases h25:n.op=25
 ·rw[if_pos (.inr h25),if_neg h24,if_pos h25];unfold cX;rw[if_pos h25];cases w.ins with
  |nil=>rfl
  |cons x xs=>
   simp only
   split
   ·rfl
   ·rw[h25];exact mZ
 rw[if_neg (by simp only[not_or];exact⟨h24,h25⟩),if_neg h24,if_neg h25]
 exact mZ
end Go.Abs
namespace Go.Proofs.YtmnchlhngpdffaaGreat
open Go.Abs Go.Proofs
set_option maxRecDepth 100000
set_option maxHeartbeats 4000000
def aD3 (s:Int):Val:= .ifc 249 (.agg [.i s])
theorem gD (s:Int):PC L 264 [.bool true,.i s] (.tup []):=by
 have hL:=at_ Tryz.func264
 conv at hL=>rhs;reduce
 refine aH hL rfl rfl ?_
 simp only[go_sem,kK]
theorem jO (s:Int):PX L 264 [.bool false,.i s] (aD3 s):=by
 have hL:=at_ Tryz.func264
 conv at hL=>rhs;reduce
 refine aIp hL rfl rfl ?_
 simp only[go_sem,kK]
 refine eX 3 rfl ?_
 simp only[go_sem,bOp,bOm];exact⟨rfl,rfl⟩
theorem sK (n:Int):PC L 324 [.i n] (.agg [.i (lR n).kind,.i (lR n).n]):=by
 have hL:=at_ Tryz.func324
 conv at hL=>rhs;reduce
 refine aH hL rfl rfl ?_
 simp only[go_sem,kK,lR]
theorem aD4 (b:Bool):PC L 325 [.bool b] (.agg [.i (mA b).kind,.i (mA b).n]):=by
 have hL:=at_ Tryz.func325
 conv at hL=>rhs;reduce
 refine aH hL rfl rfl ?_
 cases b<;>simp only[go_sem,kK,mA,bOa,if_false]
theorem jP :PC L 326 [] (.agg [.i bL.kind,.i bL.n]):=by
 have hL:=at_ Tryz.func326
 conv at hL=>rhs;reduce
 refine aH hL rfl rfl ?_
 simp only[go_sem,kK,bL]
theorem wO (v:aE):PC L 169 [.agg [.i v.kind,.i v.n]] (.agg [.i (pW v).kind,.i (pW v).n]):=by
 have hL:=at_ Tryz.func169
 conv at hL=>rhs;reduce
 refine aH hL rfl rfl ?_
 obtain⟨k,n⟩:=v
 by_cases h4:k=4
 ·subst h4;simp only[go_sem,kK,pW,dE,true_or]
 ·have d4:decide (k=4)=false:=decide_eq_false h4
  by_cases h5:k=5
  ·subst h5;simp only[go_sem,kK,pW,dE,or_true]
  ·have d5:decide (k=5)=false:=decide_eq_false h5;simp only[go_sem,kK,pW,h4,h5,or_self,bOa,if_false]
def vK (what:Int)(e:lQ):Val:=if what=2 then .ifc 244 (.agg [])else if what=0 then .ifc 255 (.agg [])else .ifc 247 (.agg [.i e.task,.i e.act,.i e.n,.i e.v.kind,.i e.v.n])
theorem aJp :PC L 122 [.ifc 255 (.agg [])] (.i 0):=by
 have hL:=at_ Tryz.func122
 conv at hL=>rhs;reduce
 refine aH hL rfl rfl ?_
 simp only[go_sem,kK]
theorem aL2 :PC L 122 [.ifc 244 (.agg [])] (.i 2):=by
 have hL:=at_ Tryz.func122
 conv at hL=>rhs;reduce
 refine aH hL rfl rfl ?_
 simp only[go_sem,kK]
theorem aL3 (l:List Val):PC L 122 [.ifc 247 (.agg l)] (.i 1):=by
 have hL:=at_ Tryz.func122
 conv at hL=>rhs;reduce
 refine aH hL rfl rfl ?_
 simp only[go_sem,kK]
def Old (k:Key)(cnt:Nat->Nat->Nat):Prop:=k.n=0/\ k.g<cnt 0 k.t
variable {k:Key}{d:Nat}{cnt:Nat->Nat->Nat}
theorem Old.ne (h:Old k cnt):k≠⟨0,d,cnt 0 d⟩:=by
 rintro rfl;exact Nat.lt_irrefl _ h.2
theorem Old.set (h:Old k cnt)(en:En)(d:Nat)(e:Option Ent):En.set en ⟨0,d,cnt 0 d⟩ e k=en k:=pU h.ne
theorem Old.new (h:Old k cnt)(en:En)(d:Nat)(e:Option Ent):En.set en k e ⟨0,d,cnt 0 d⟩=en ⟨0,d,cnt 0 d⟩:=pU h.ne.symm
theorem Old.eqF (h:Old k cnt)(d:Nat):((⟨0,d,cnt 0 d⟩:Key)=k)=False:=by simp only[eq_iff_iff,iff_false];exact h.ne.symm
theorem Old.eqF' (h:Old k cnt)(d:Nat):(k=(⟨0,d,cnt 0 d⟩:Key))=False:=by simp only[eq_iff_iff,iff_false];exact h.ne
variable {cnt':Nat->Nat->Nat}
theorem Old.up (h:Old k cnt)(hu: ∀t,cnt 0 t<=cnt' 0 t):Old k cnt':=⟨h.1,bOy h.2 (hu _)⟩
variable {en:En}{e:Option Ent}{k':Key}
theorem aK (h:k'≠k):En.set en k e k'=en k':=pU h
variable {c:Nat->Nat->Nat}
theorem upS (h: ∀t,cnt 0 t<=c 0 t){a x:Nat}(hx:cnt 0 a<=x): ∀t,cnt 0 t<=aC c 0 a x 0 t:=by
 intro t;have:=h t
 by_cases ht:t=a
 ·subst ht;rw[aX6];exact hx
 ·rw[aX7 ht];exact this
theorem aN (cnt:Nat->Nat->Nat): ∀t,cnt 0 t<=cnt 0 t:=fun _=>bN9 _
structure dI (kt kr:Key) (en:En) (cnt:Nat->Nat->Nat) (en':En) (cnt':Nat->Nat->Nat):Prop where
 old: ∀k,Old k cnt->k≠kt->k≠kr->en' k=en k
 up: ∀t,cnt 0 t<=cnt' 0 t
theorem dI.refl (kt kr:Key)(en:En)(cnt:Nat->Nat->Nat):dI kt kr en cnt en cnt:=⟨fun _ _ _ _=>rfl,fun _=>bN9 _⟩
variable {en2 en1:En}{kt kr:Key}{cnt2:Nat->Nat->Nat}
theorem dI.trans {cnt1:Nat->Nat->Nat}(h:dI kt kr en cnt en1 cnt1)(k:dI kt kr en1 cnt1 en2 cnt2):dI kt kr en cnt en2 cnt2:=
 ⟨fun x hx a b=>(k.old x (hx.up h.up) a b).trans (h.old x hx a b),fun t=>bOk (h.up t) (k.up t)⟩
variable {g:Nat}{en':En}
theorem dI.loc (k:dI kt kr en cnt en' cnt')(hg:g<cnt 0 d)(ht:(⟨0,d,g⟩:Key)≠kt)(hr:(⟨0,d,g⟩:Key)≠kr):en' ⟨0,d,g⟩=en ⟨0,d,g⟩/\ Old ⟨0,d,g⟩ cnt':=
 ⟨k.old _ ⟨rfl,hg⟩ ht hr,rfl,bOy hg (k.up d)⟩
def gV (v:Val)(xs:List Val):Prop:=v= .fz xs \/v= .cl xs
variable {xs:List Val}{v:Val}
theorem gV.len (h:gV v xs):rP v=some xs.length:=by rcases h with rfl|rfl<;>rfl
theorem gV.elems (h:gV v xs)(en:En):iC en v=some (xs,[]):=by rcases h with rfl|rfl<;>rfl
theorem gV.fz (xs:List Val):gV (.fz xs) xs:= .inl rfl
theorem gV.cl (xs:List Val):gV (.cl xs) xs:= .inr rfl
theorem gV.one (h:gV v xs):v.one=true:=by rcases h with rfl|rfl<;>rfl
theorem gV.cells (h:gV v xs):v.cells=[v]:=by rcases h with rfl|rfl<;>rfl
structure TS (kt kr:Key) (en:En) (cnt:Nat->Nat->Nat) (p:aI) (w:aB) (a:Int) (left:List aA) (f:aA) (n:aL) (back:List aE) (bv:Val):Prop where
 okt:Old kt cnt
 okr:Old kr cnt
 ne:kr≠kt
 ob:gV bv (back.map aE.enc)
 t:en kt=some (.box [.ptr kr 0,.i a,.fz (left.map aA.enc),.i f.node,.fz (f.env.map aE.enc),.fz (f.vals.map aE.enc),.i n.op,.i n.n,.is n.kids,.fz (n.pats.map Pat.enc),bv] false)
 r:en kr=some (.box [.fz (p.nodes.map aL.enc),.is p.funs,.i p.main,.fz (p.cons.map cD.enc),.fz (w.objs.map aR.enc),.is w.tasks,.fz (w.outs.map bJ.enc),.is w.ins,.i w.used] false)
variable {bv0 bv T U O I lv:Val}{w0 w:aB}{b0 back:List aE}{size t:Nat}{ys cs f os is n us ts:List Val}{rs:List R}{i m a u s:Int}{b:Bool}{K2 K1 K4 K3:List Key}{l left:List aA}{p:aI}
section
variable {f:aA}{n:aL}
theorem TS.to (h:TS kt kr en cnt p w a left f n back bv)(ht:en' kt=en kt)(hr:en' kr=en kr)(hu: ∀t,cnt 0 t<=cnt' 0 t):TS kt kr en' cnt' p w a left f n back bv:=
 ⟨h.okt.up hu,h.okr.up hu,h.ne,h.ob,by rw[ht];exact h.t,by rw[hr];exact h.r⟩
theorem bBk (h1:Old kt cnt)(h2:Old kr cnt)(h3:kr≠kt):(∀e d x,En.set e ⟨0,d,cnt 0 d⟩ x kt=e kt)/\ (∀e d x,En.set e ⟨0,d,cnt 0 d⟩ x kr=e kr)/\ (∀e d x,En.set e kt x ⟨0,d,cnt 0 d⟩=e ⟨0,d,cnt 0 d⟩)/\ (∀e d x,En.set e kr x ⟨0,d,cnt 0 d⟩=e ⟨0,d,cnt 0 d⟩)/\ (∀d,((⟨0,d,cnt 0 d⟩:Key)=kt)=False)/\ (∀d,((⟨0,d,cnt 0 d⟩:Key)=kr)=False)/\ (∀d,(kt=(⟨0,d,cnt 0 d⟩:Key))=False)/\ (∀d,(kr=(⟨0,d,cnt 0 d⟩:Key))=False)/\ (∀(e:En) x,En.set e kt x kr=e kr)/\ ∀(e:En) x,En.set e kr x kt=e kt:=
 ⟨h1.set,h2.set,h1.new,h2.new,h1.eqF,h2.eqF,h1.eqF',h2.eqF',fun _ _=>aK h3,fun _ _=>aK h3.symm⟩
theorem TS.pre (h:TS kt kr en cnt p w a left f n back bv):type_of%(bBk h.okt h.okr h.ne):=bBk h.okt h.okr h.ne
theorem TS.stay (h:TS kt kr en cnt p w a left f n back bv)(hk: ∀k,Old k cnt->en' k=en k)(hu: ∀t,cnt 0 t<=cnt' 0 t):(∃bv',TS kt kr en' cnt' p w a left f n back bv')/\ dI kt kr en cnt en' cnt':=
 ⟨⟨bv,h.to (hk _ h.okt) (hk _ h.okr) hu⟩,fun k ho _ _=>hk k ho,hu⟩
theorem TS.fin {l0:List aA}(h0:TS kt kr en cnt p w0 a l0 f n b0 bv0)(h:TS kt kr en' cnt' p w a left f n back bv)(k:dI kt kr en cnt en' cnt')(hk: ∀k,Old k cnt->Old k cnt'->en2 k=en' k)(hu: ∀t,cnt' 0 t<=cnt2 0 t):
  (∃bv',TS kt kr en2 cnt2 p w a left f n back bv')/\ dI kt kr en cnt en2 cnt2:=
 ⟨⟨bv,h.to (hk _ h0.okt h.okt) (hk _ h0.okr h.okr) hu⟩,fun x ho a b=>(hk x ho (ho.up k.up)).trans (k.old x ho a b),fun t=>bOk (k.up t) (hu t)⟩
theorem tS :jK false size en (.fz xs) none (some (.i (xs.length:Int))) (some (.i (xs.length:Int)))=some {v:= .cl xs}:=by
 simp[jK,aHq,sI (bN9 _),tG]
theorem aBv (xs:List Val):PC L 265 [.fz xs] (.cl xs):=by
 have hL:=at_ Tryz.func265
 conv at hL=>rhs;reduce
 refine aH hL rfl rfl ?_
 simp only[go_sem,kK,tS]
theorem aAc (xs:List Val):PC L 221 [.fz xs] (.cl xs):=by
 have hL:=at_ Tryz.func221
 conv at hL=>rhs;reduce
 refine aH hL rfl rfl ?_
 simp only[go_sem,kK,tS]
theorem aGl (xs:List Val):PC L 358 [.fz xs] (.cl xs):=by
 have hL:=at_ Tryz.func358
 conv at hL=>rhs;reduce
 refine aH hL rfl rfl ?_
 simp only[go_sem,kK,tS]
theorem aGm (xs:List Val):PC L 335 [.fz xs] (.cl xs):=by
 have hL:=at_ Tryz.func335
 conv at hL=>rhs;reduce
 refine aH hL rfl rfl ?_
 simp only[go_sem,kK,tS]
theorem aQu (xs:List Val):PC L 336 [.fz xs] (.cl xs):=by
 have hL:=at_ Tryz.func336
 conv at hL=>rhs;reduce
 refine aH hL rfl rfl ?_
 simp only[go_sem,kK,tS]
def aS7 (d g size:Nat)(xs ys:List Val)(rs:List R):Option Res:=
 if ys=[]then some {v:= .cl xs,rs}else some {v:= .bl ⟨0,d,g⟩ 0 (xs.length+ys.length),ws:=[.ent ⟨0,d,g⟩ (some (.blk size (xs++ys) (!xs.isEmpty)))],rs,bump:=true}
theorem tT (h1:cP size ys=true)(h2:cP size xs=true)(hl:xs.length+ys.length<=16777216):
  aK2 d g en size (.cl xs) (some (ys,rs))=aS7 d g size xs ys rs:=by
 unfold aS7;split
 ·rename_i h;subst h;simp[aK2,fD,cP]
 ·rename_i h;simp[aK2,fD,h1,h,h2,hl]
theorem aJq :aS7 d g size xs [] rs=some {v:= .cl xs,rs}:=by simp[aS7]
theorem aA8 (h:ys≠[]):aS7 d g size xs ys rs=some {v:= .bl ⟨0,d,g⟩ 0 (xs.length+ys.length),ws:=[.ent ⟨0,d,g⟩ (some (.blk size (xs++ys) (!xs.isEmpty)))],rs,bump:=true}:=by simp[aS7,h]
theorem aQv {o:Nat}:cH en (.ptr k o)=some (.ptr k o,[]):=(rfl)
theorem aD5 {k:IntKind}:cH en (.int k i)=some (.int k i,[]):=(rfl)
theorem aNw :cH en (.fz xs)=some (.fz xs,[]):=(rfl)
theorem qD (h:gV v xs):cH en v=some (.fz xs,[]):=by rcases h with rfl|rfl<;>rfl
theorem sA {n:Nat}(h:en ⟨0,t,g⟩=some (.blk size xs b))(hn:n=xs.length):cH en (.bl ⟨0,t,g⟩ 0 n)=some (.fz xs,[⟨0,t,g⟩]):=by
 subst hn;simp[cH,snapD,h,Val.wk0,aIs]
theorem aD6 {rs:List (Val×List Key)}(h:en k=some (.box cs false))(hc:cM (cH en) cs=some rs)(hk:(rs.flatMap (·.2)).contains k=false):
  tF en k=some ((W.applyAll en ((rs.flatMap (·.2)).map .frz)).set k (some (.box (rs.map (·.1)) false))):=by
 simp only[tF,h,hc,hk,bOa,if_false]
theorem aJr (h:tF en k=some en1):nF (.ptr k 0) [[]] en=some en1:=by simp only[nF,aOs,h]
theorem aZa (hk:en k=some (.box (.ptr k' 0::cs) b))(h:tF en k'=some en1):nF (.ptr k 0) [[0]] en=some en1:=by simp only[nF,aOs,hk,bQ3,h]
theorem aZb {o:Int}{F:Val}{e v ks ps bs:List Val}{K:List Key}(h:en kt=some (.box [.ptr kr 0,.i a,F,.i i,.fz e,.fz v,.i o,.i m,.fz ks,.fz ps,bv] false))(hF:cH en F=some (.fz xs,K))(hb:gV bv bs)(hk:kt∉K):
  nF (.ptr kt 0) [[]] en=some ((W.applyAll en (K.map .frz)).set kt (some (.box [.ptr kr 0,.i a,.fz xs,.i i,.fz e,.fz v,.i o,.i m,.fz ks,.fz ps,.fz bs] false))):=by
 have:=aD6 (rs:=[(.ptr kr 0,[]),(.i a,[]),(.fz xs,K),(.i i,[]),(.fz e,[]),(.fz v,[]),(.i o,[]),(.i m,[]),(.fz ks,[]),(.fz ps,[]),(.fz bs,[])]) h (by simp only[aA4,aDh,aQv,aD5,aNw,hF,qD hb]) (by simpa using hk)
 simp only[bQm,bP7,bPa,bPb,bO4,bOq]at this;exact aJr this
theorem aS8 {n f c:List Val}(ht:en kt=some (.box (.ptr kr 0::cs) b))(h:en kr=some (.box [.fz n,.fz f,.i m,.fz c,O,T,U,I,.i u] false))
  (hO:cH en O=some (.fz os,K1)) (hT:cH en T=some (.fz ts,K2)) (hU:cH en U=some (.fz us,K3)) (hI:cH en I=some (.fz is,K4)) (hk:kr∉K1++(K2++(K3++K4))):
  nF (.ptr kt 0) [[0]] en=some ((W.applyAll en ((K1++(K2++(K3++K4))).map .frz)).set kr (some (.box [.fz n,.fz f,.i m,.fz c,.fz os,.fz ts,.fz us,.fz is,.i u] false))):=by
 have:=aD6 (rs:=[(.fz n,[]),(.fz f,[]),(.i m,[]),(.fz c,[]),(.fz os,K1),(.fz ts,K2),(.fz us,K3),(.fz is,K4),(.i u,[])]) h (by simp only[aA4,aDh,aD5,aNw,hO,hT,hU,hI]) (by simpa using hk)
 simp only[bQm,bP7,bPa,bPb,bO4,bOq]at this;exact aZa ht this
theorem aQw {n f c:List Val}(h:en kr=some (.box [.fz n,.fz f,.i m,.fz c,O,T,U,I,.i u] false))
  (hO:cH en O=some (.fz os,K1)) (hT:cH en T=some (.fz ts,K2)) (hU:cH en U=some (.fz us,K3)) (hI:cH en I=some (.fz is,K4)) (hk:kr∉K1++(K2++(K3++K4))):
  nF (.ptr kr 0) [[]] en=some ((W.applyAll en ((K1++(K2++(K3++K4))).map .frz)).set kr (some (.box [.fz n,.fz f,.i m,.fz c,.fz os,.fz ts,.fz us,.fz is,.i u] false))):=by
 have:=aD6 (rs:=[(.fz n,[]),(.fz f,[]),(.i m,[]),(.fz c,[]),(.fz os,K1),(.fz ts,K2),(.fz us,K3),(.fz is,K4),(.i u,[])]) h (by simp only[aA4,aDh,aD5,aNw,hO,hT,hU,hI]) (by simpa using hk)
 simp only[bQm,bP7,bPa,bPb,bO4,bOq]at this;exact aJr this
theorem oI (h:k'≠k):(W.frz k).apply en k'=en k':=by
 simp only[W.apply];cases en k with
 |none=>rfl
 |some e=>exact pU h
theorem aD7 (h:TS kt kr en cnt p w a left f n back bv)(hl:gV lv (l.map aA.enc))(hc:left.length+l.length<=40):
  WIn L (.fn 220 [] []) [.ptr kt 0,lv] en cnt fun v en' cnt'=>v= .tup []/\ (∃bv',TS kt kr en' cnt' p w a (left++l) f n back bv')/\ dI kt kr en cnt en' cnt':=by
 have hw:IntKind.i64.wrap ((left.length:Int)+(l.length:Int))=((left.length+l.length:Nat):Int):=by rw[aY (by omega)];omega
 have d:decide (((left.length+l.length:Nat):Int)<=40)=true:=decide_eq_true (by omega)
 have hlen:rP lv=some l.length:=by rw[hl.len,bOc]
 have hel:=hl.elems;have s1:=h.okt.set;have s2:=h.okr.set;have n1:=h.okt.new;have hl16:left.length+l.length<=16777216:=by omega
 have ht:=h.t;have hr:=h.r;have hb:=h.ob;have hL:=at_ Tryz.func220
 conv at hL=>rhs;reduce
 refine qI hL rfl rfl ?_
 simp only[go_sem,kK]
 refine cU ?_
 simp only[go_sem,ht,hlen,bOc,hw,d,(gD _).ret,(aBv _).ret,bS,dU,hel,tT,iQ,hl16]
 by_cases hl0:l=[]
 ·subst hl0;simp only[go_sem,bOq,aJq,pE,kO,ht];rw[aZb (K:=[]) cB rfl hb (by simp)]
  simp only[bOq,fF];exact⟨⟨_,h.okt,h.okr,h.ne,.inl rfl,cB,by rw[aK h.ne,aK h.ne];exact hr⟩,fun k hk a b=>by rw[aK a,aK a],fun _=>bN9 _⟩
 ·have hne:l.map aA.enc≠[]:=by simpa using hl0
  have nk:kt≠⟨0,21,cnt 0 21⟩:=h.okt.ne;have nr:kr≠⟨0,21,cnt 0 21⟩:=h.okr.ne;simp only[go_sem,aA8 hne,tQ,mK,s1,ht,bOc];rw[aZb (K:=[⟨0,21,cnt 0 21⟩]) (xs:=(left++l).map aA.enc) cB (sA (by rw[n1];exact cB.trans (by rw[<-bPn])) (by simp)) hb (by simpa using nk)]
  simp only[bO4,bOq,jS,fF];have hu:=upS (aN cnt) (a:=21) (x:=cnt 0 21+1) (by omega)
  refine⟨⟨_,h.okt.up hu,h.okr.up hu,h.ne,.inl rfl,cB,?_⟩,fun k hk a b=>?_,hu⟩
  ·rw[aK h.ne,oI nr,aK h.ne,s2];exact hr
  ·rw[aK a,oI hk.ne,aK a,hk.set]
def RB (kr:Key)(en:En)(p:aI):Prop:= ∃O T U I u,en kr=some (.box [.fz (p.nodes.map aL.enc),.is p.funs,.i p.main,.fz (p.cons.map cD.enc),O,T,U,I,u] false)
theorem TS.rb (h:TS kt kr en cnt p w a left f n back bv):RB kr en p:=⟨_,_,_,_,_,h.r⟩
structure oB (kt kr:Key) (en:En) (cnt:Nat->Nat->Nat) (p:aI) (s:Int) (v:Val) (en':En) (cnt':Nat->Nat->Nat):Prop where
 v:v=aD3 s
 keep:dI kt kr en cnt en' cnt'
 rb:RB kr en' p
theorem aJs (h:TS kt kr en cnt p w a left f n back bv)(hl:gV lv (l.map aA.enc))(hc:40<left.length+l.length)(hs:left.length+l.length<=1000000):
  vC L 220 [.ptr kt 0,lv] en cnt (oB kt kr en cnt p 4):=by
 have hw:IntKind.i64.wrap ((left.length:Int)+(l.length:Int))=((left.length+l.length:Nat):Int):=by rw[aY (by omega)];omega
 have d:decide (((left.length+l.length:Nat):Int)<=40)=false:=decide_eq_false (by omega)
 have hlen:rP lv=some l.length:=by rw[hl.len,bOc]
 have ht:=h.t;have hL:=at_ Tryz.func220
 conv at hL=>rhs;reduce
 refine bW hL rfl rfl ?_
 simp only[go_sem,kK]
 refine eX 9 rfl ?_
 simp only[go_sem,bOp,bOm,ht,hlen,bOc,hw,d,(jO _).ret];exact⟨rfl,dI.refl _ _ _ _,h.rb⟩
theorem TS.fell {l0:List aA}(h0:TS kt kr en cnt p w0 a l0 f n b0 bv0)(h:TS kt kr en' cnt' p w a left f n back bv)(k:dI kt kr en cnt en' cnt')(hk: ∀k,Old k cnt->Old k cnt'->en2 k=en' k)(hu: ∀t,cnt' 0 t<=cnt2 0 t):
  oB kt kr en cnt p s (aD3 s) en2 cnt2:=by
 obtain⟨⟨bv3,h3⟩,k3⟩:=h0.fin h k hk hu;exact⟨rfl,k3,h3.rb⟩
theorem TS.fell0 (h:TS kt kr en cnt p w a left f n back bv)(hk: ∀k,Old k cnt->en' k=en k)(hu: ∀t,cnt 0 t<=cnt' 0 t):oB kt kr en cnt p s (aD3 s) en' cnt':=by
 obtain⟨⟨bv3,h3⟩,k3⟩:=h.stay hk hu;exact⟨rfl,k3,h3.rb⟩
theorem oB.then (k:dI kt kr en cnt en' cnt')(h:oB kt kr en' cnt' p s v en2 cnt2):oB kt kr en cnt p s v en2 cnt2:=⟨h.v,k.trans h.keep,h.rb⟩
end
variable {V r ev:Val}{E:En}{w':aB}{j:Nat}{env:List aE}
section
variable {f:aA}{n:aL}
def aNx :Val:= .ifc 255 (.agg [])
def aUa :Val:= .ifc 244 (.agg [])
def aGn (e:lQ):Val:= .ifc 247 (.agg [.i e.task,.i e.act,.i e.n,.i e.v.kind,.i e.v.n])
theorem iD (h:TS kt kr en cnt p w a left f n back bv)(v:aE):
  WIn L (.fn 323 [] []) [.ptr kt 0,.agg [.i v.kind,.i v.n]] en cnt fun r en' cnt'=>r=aNx/\ (∃bv',TS kt kr en' cnt' p w a left f n [v] bv')/\ dI kt kr en cnt en' cnt':=by
 have H:=h.pre;have hn:=h.ne;have ht:=h.t;have hr:=h.r;have s2:=h.okr.set;have hL:=at_ Tryz.func323
 conv at hL=>rhs;reduce
 refine bO hL rfl rfl ?_
 simp only[go_sem,kK,ht,H,kB];have hu:=upS (aN cnt) (a:=3) (x:=cnt 0 3+1) (by omega)
 exact⟨rfl,⟨_,h.okt.up hu,h.okr.up hu,hn,.inr rfl,cB,by rw[aK hn,s2];exact hr⟩,fun k hk a b=>by simp only[hk.set,aK a],hu⟩
theorem pL (h:TS kt kr en cnt p w a left f n back bv)(v e:aE):
  WIn L (.fn 333 [] []) [.ptr kt 0,.agg [.i v.kind,.i v.n],.agg [.i e.kind,.i e.n]] en cnt fun r en' cnt'=>r=aGn ⟨a,n.op,if n.op=24 then n.n else 0,pW e⟩/\ (∃bv',TS kt kr en' cnt' p w a left f n [v] bv')/\ dI kt kr en cnt en' cnt':=by
 have H:=h.pre;have hn:=h.ne;have ht:=h.t;have hr:=h.r;have hL:=at_ Tryz.func333
 conv at hL=>rhs;reduce
 refine bO hL rfl rfl ?_
 simp only[go_sem,kK,ht,H,kB]
 refine aJ ?_
 by_cases h24:n.op=24
 ·have d24:decide (n.op=24)=true:=decide_eq_true h24;simp only[go_sem,kK,(wO _).ret,d24,H,kA,kF];have hu: ∀t,cnt 0 t<=aC (aC (aC cnt 0 4 (cnt 0 4+1)) 0 5 (cnt 0 5+1)) 0 7 (cnt 0 7+1) 0 t:=(by(repeat refine upS ?_ (by omega));exact aN _)
  exact⟨by simp only[if_pos h24,aGn],⟨_,h.okt.up hu,h.okr.up hu,hn,.inr rfl,by simp only[H,cB];rfl,by simp only[H];exact hr⟩,fun k hk a b=>by simp only[hk.set,aK a],hu⟩
 ·have d24:decide (n.op=24)=false:=decide_eq_false h24;simp only[go_sem,kK,(wO _).ret,d24,H,kA,kF];have hu: ∀t,cnt 0 t<=aC (aC (aC cnt 0 4 (cnt 0 4+1)) 0 5 (cnt 0 5+1)) 0 7 (cnt 0 7+1) 0 t:=(by(repeat refine upS ?_ (by omega));exact aN _)
  exact⟨by simp only[if_neg h24,aGn],⟨_,h.okt.up hu,h.okr.up hu,hn,.inr rfl,by simp only[H,cB];rfl,by simp only[H];exact hr⟩,fun k hk a b=>by simp only[hk.set,aK a],hu⟩
theorem aL4 {F1:Val}(ht:en kt=some (.box [.ptr kr 0,.i a,F1,.i f.node,.fz (f.env.map aE.enc),.fz (f.vals.map aE.enc),.i n.op,.i n.n,.is n.kids,.fz (n.pats.map Pat.enc),bv] false))(ok:Old kt cnt)(v e:aE):
  WIn L (.fn 333 [] []) [.ptr kt 0,.agg [.i v.kind,.i v.n],.agg [.i e.kind,.i e.n]] en cnt fun r en' cnt'=>r=aGn ⟨a,n.op,if n.op=24 then n.n else 0,pW e⟩/\
   en' kt=some (.box [.ptr kr 0,.i a,F1,.i f.node,.fz (f.env.map aE.enc),.fz (f.vals.map aE.enc),.i n.op,.i n.n,.is n.kids,.fz (n.pats.map Pat.enc),.cl [.agg [.i v.kind,.i v.n]]] false)/\ (∀k,Old k cnt->k≠kt->en' k=en k)/\ ∀t,cnt 0 t<=cnt' 0 t:=by
 have s1:=ok.set;have n1:=ok.new;have m1:=ok.eqF;have o1:=ok.eqF';have hL:=at_ Tryz.func333
 conv at hL=>rhs;reduce
 refine bO hL rfl rfl ?_
 simp only[go_sem,kK,ht,s1,kB]
 refine aJ ?_
 by_cases h24:n.op=24
 ·have d24:decide (n.op=24)=true:=decide_eq_true h24;simp only[go_sem,kK,(wO _).ret,d24,s1,n1,m1,kA,kF];exact⟨by simp only[if_pos h24,aGn],fun k hk a=>by simp only[hk.set,aK a],(by(repeat refine upS ?_ (by omega));exact aN _)⟩
 ·have d24:decide (n.op=24)=false:=decide_eq_false h24;simp only[go_sem,kK,(wO _).ret,d24,s1,n1,m1,kA,kF];exact⟨by simp only[if_neg h24,aGn],fun k hk a=>by simp only[hk.set,aK a],(by(repeat refine upS ?_ (by omega));exact aN _)⟩
theorem rA {y:Val}:aS7 d g size xs [y] rs=some {v:= .bl ⟨0,d,g⟩ 0 (xs.length+1),ws:=[.ent ⟨0,d,g⟩ (some (.blk size (xs++[y]) (!xs.isEmpty)))],rs,bump:=true}:=aA8 (by simp)
theorem aUb {x y:Int}{FV:Val}:cP 4 [.agg [.i x,.i y,V,FV]]=true:=(rfl)
theorem uR {cnt:Nat->Nat->Nat}{k:Key}(h:Old k cnt): ∀{K:List Key},(∀x∈K,∃d,x=⟨0,d,cnt 0 d⟩)-> ∀(E:En),W.applyAll E (K.map .frz) k=E k
 |[],_,_=>rfl
 |x::K,hK,E=>by
  have:W.applyAll E ((x::K).map .frz)=W.applyAll ((W.frz x).apply E) (K.map .frz):=rfl;rw[this,uR h fun y hy=>hK y (bP8 _ hy)]
  obtain⟨d,rfl⟩:=hK x (bRi ..);exact oI h.ne
theorem bDa (h:TS kt kr en cnt p w a left f n back bv)(ht:E kt=en kt)
  (hr:E kr=some (.box [.fz (p.nodes.map aL.enc),.is p.funs,.i p.main,.fz (p.cons.map cD.enc),O,T,U,I,.i w'.used] false))
  (hO:cH E O=some (.fz (w'.objs.map aR.enc),K1)) (hT:cH E T=some (.is w'.tasks,K2)) (hU:cH E U=some (.fz (w'.outs.map bJ.enc),K3)) (hI:cH E I=some (.is w'.ins,K4))
  (hK: ∀k∈K1++(K2++(K3++K4)),∃d,k=⟨0,d,cnt 0 d⟩) (hk: ∀k,Old k cnt->k≠kt->k≠kr->E k=en k) (hu: ∀t,cnt 0 t<=c 0 t) (hv:v=r):
  match nF (.ptr kt 0) [[0]] E with
  |some en'=>v=r/\ (∃bv',TS kt kr en' c p w' a left f n back bv')/\ dI kt kr en cnt en' c
  |none=>False:=by
 have hkn:kr∉K1++(K2++(K3++K4)):=fun hm=>by obtain⟨d,e⟩:=hK kr hm;exact h.okr.ne e
 rw[aS8 (ht.trans h.t) hr hO hT hU hI hkn]
 refine⟨hv,⟨bv,h.okt.up hu,h.okr.up hu,h.ne,h.ob,?_,cB⟩,fun k ho k1 k2=>?_,hu⟩
 ·rw[aK h.ne.symm,uR h.okt hK,ht];exact h.t
 ·rw[aK k2,uR ho hK];exact hk k ho k1 k2
theorem aZc (h:TS kt kr en cnt p w a left f n back bv)(ht:E kt=en kt)
  (hr:E kr=some (.box [.fz (p.nodes.map aL.enc),.is p.funs,.i p.main,.fz (p.cons.map cD.enc),O,T,U,I,.i w'.used] false))
  (hO:cH E O=some (.fz (w'.objs.map aR.enc),K1)) (hT:cH E T=some (.is w'.tasks,K2)) (hU:cH E U=some (.fz (w'.outs.map bJ.enc),K3)) (hI:cH E I=some (.is w'.ins,K4))
  (hK: ∀k∈K1++(K2++(K3++K4)),∃d,k=⟨0,d,cnt 0 d⟩) (hk: ∀k,Old k cnt->k≠kt->k≠kr->E k=en k) (hu: ∀t,cnt 0 t<=c 0 t):
  match nF (.ptr kt 0) [[0]] E with
  |some en'=>(∃bv',TS kt kr en' c p w' a left f n back bv')/\ dI kt kr en cnt en' c
  |none=>False:=by
 have:=bDa h ht hr hO hT hU hI hK hk hu (rfl:Val.nilp=Val.nilp)
 split at this
 ·exact this.2
 ·exact this
theorem aA9 (d:Nat): ∀k∈[(⟨0,d,cnt 0 d⟩:Key)]++([]++([]++[])),∃d,k=⟨0,d,cnt 0 d⟩:=by simp
theorem qE (h:TS kt kr en cnt p w a left f n back bv){o:aR}{FV:Val}(hV:gV V (o.vals.map aE.enc))(hF:gV FV (o.frames.map aA.enc))(hc:w.objs.length<120):
  WIn L (.fn 327 [] []) [.ptr kt 0,.agg [.i o.form,.i o.n,V,FV]] en cnt fun r en' cnt'=>r= .agg [.i (dE w.objs.length).kind,.i (dE w.objs.length).n]/\ (∃bv',TS kt kr en' cnt' p (dW w o) a left f n back bv')/\ dI kt kr en cnt en' cnt':=by
 have H:=h.pre;have ht:=h.t;have hr:=h.r;have d:decide ((w.objs.length:Int)<120)=true:=decide_eq_true (by omega)
 have hl:w.objs.length+1<=16777216:=by omega
 have hw:IntKind.i64.wrap (((w.objs.length+1:Nat):Int)-1)=(w.objs.length:Int):=by rw[aY (by omega)];omega
 have hA:w.objs.map aR.enc++[.agg [.i o.form,.i o.n,.fz (o.vals.map aE.enc),.fz (o.frames.map aA.enc)]]=(dW w o).objs.map aR.enc:=by simp[dW,aR.enc]
 have hAl:w.objs.length+1=((dW w o).objs.map aR.enc).length:=by simp[dW]
 have hL:=at_ Tryz.func327
 conv at hL=>rhs;reduce
 refine qI hL rfl rfl ?_
 simp only[go_sem,kK]
 refine cU ?_
 simp only[go_sem,ht,hr,H,bOc,d,(gD _).ret]
 refine aJ ?_
 rcases hV with rfl|rfl<;>rcases hF with rfl|rfl<;>
 (simp only[go_sem,ht,hr,H,kB,bOc,(aGl _).ret,bS,dU,tT,xU,aUb,hl,rA,hw,hA,kA,kF]
  exact bDa h (w':=dW w o) (by simp only[H]) (by simp only[H,cB];rfl) (sA (by simp only[go_sem,H];rfl) hAl) rfl rfl rfl (aA9 31) fun k hk a b=>by simp only[hk.set,aK b] (by(repeat refine upS ?_ (by omega));exact aN _) rfl)
theorem oC (h:TS kt kr en cnt p w a left f n back bv){o:aR}{FV:Val}(hc:120<=w.objs.length)(hs:w.objs.length<=1000000):
  vC L 327 [.ptr kt 0,.agg [.i o.form,.i o.n,V,FV]] en cnt (oB kt kr en cnt p 4):=by
 have H:=h.pre;have ht:=h.t;have hr:=h.r;have d:decide ((w.objs.length:Int)<120)=false:=decide_eq_false (by omega)
 have hL:=at_ Tryz.func327
 conv at hL=>rhs;reduce
 refine bW hL rfl rfl ?_
 simp only[go_sem,kK]
 refine eX 10 rfl ?_
 simp only[go_sem,bOp,bOm,ht,hr,H,bOc,d,(jO _).ret];exact⟨rfl,⟨fun k hk a b=>by simp only[hk.set],(by(repeat refine upS ?_ (by omega));exact aN _)⟩,_,_,_,_,_,by simp only[H];exact hr⟩
theorem xW (xs:List Val)(h1:cP 4 xs=true)(hl:xs.length<=16777216):PC L 219 [.fz xs] (rO 4 xs):=by
 cases xs with
 |nil=>
  have hL:=at_ Tryz.func219
  conv at hL=>rhs;reduce
  refine aIo hL rfl rfl (.inl rfl) (oZ ?_) (oZ ?_)
  ·simp only[go_sem,kK,vJ];rfl
  ·simp only[go_sem,kK,vJ]
   refine qY (b:=false) (by simp only[go_sem]) (by simp only[go_sem]) ?_
   simp only[go_sem];rfl
 |cons x xs=>
  have hL:=at_ Tryz.func219
  conv at hL=>rhs;reduce
  refine aH hL rfl rfl ?_
  simp only[go_sem,kK,aDy]
  refine pJ (by simp only[go_sem]) (by simp only[go_sem]) h1 hl ?_
  simp only[go_sem];rfl
theorem aJt (h:TS kt kr en cnt p w a left f n back bv){o:aR}{FV:Val}(hV:gV V (o.vals.map aE.enc))(hF:gV FV (o.frames.map aA.enc))(hj:j<w.objs.length)(hs:w.objs.length<=1000000):
  WIn L (.fn 334 [] []) [.ptr kt 0,.i j,.agg [.i o.form,.i o.n,V,FV]] en cnt fun r en' cnt'=>r= .tup []/\ (∃bv',TS kt kr en' cnt' p (dR w j o) a left f n back bv')/\ dI kt kr en cnt en' cnt':=by
 have H:=h.pre;have ht:=h.t;have hr:=h.r;have hl:(w.objs.map aR.enc).length<=16777216:=by rw[bOc];omega
 have hC:=xW (w.objs.map aR.enc) (xU _) hl;have hne:w.objs.map aR.enc≠[]:=by intro he;have h0:=congrArg List.length he;simp at h0;rw[h0]at hj;simp at hj
 rw[oK hne]at hC;have hget:(w.objs.map aR.enc)[j]?=some (aR.enc w.objs[j]):=by simp[hj]
 have hS:(w.objs.map aR.enc).set j (.agg [.i o.form,.i o.n,.fz (o.vals.map aE.enc),.fz (o.frames.map aA.enc)])=(dR w j o).objs.map aR.enc:=by simp[dR,bQi,aR.enc]
 have hSl:w.objs.length=((dR w j o).objs.map aR.enc).length:=by simp[dR]
 have hL:=at_ Tryz.func334
 conv at hL=>rhs;reduce
 refine qI hL rfl rfl ?_
 simp only[go_sem,kK]
 refine aJ ?_
 simp only[go_sem,ht,hr,H,kB,hC.ret,kA,kF];rcases hV with rfl|rfl<;>rcases hF with rfl|rfl<;>
 (simp only[go_sem,H,hget,hj,eH,bQo,bPc,hS]
  exact aZc h (w':=dR w j o) (by simp only[H]) (by simp only[H,cB];rfl) (sA cB hSl) rfl rfl rfl (aA9 18) fun k hk a b=>by simp only[hk.set,aK b] (by(repeat refine upS ?_ (by omega));exact aN _))
theorem aS9 (h:TS kt kr en cnt p w a left f n back bv){o:aR}(hb:en ⟨0,t,g⟩=some (.blk 2 (o.vals.map aE.enc) b))(hg:g<cnt 0 t){FV:Val}(hF:gV FV (o.frames.map aA.enc))(hj:j<w.objs.length)(hs:w.objs.length<=1000000):
  WIn L (.fn 334 [] []) [.ptr kt 0,.i j,.agg [.i o.form,.i o.n,.bl ⟨0,t,g⟩ 0 o.vals.length,FV]] en cnt fun r en' cnt'=>r= .tup []/\ (∃bv',TS kt kr en' cnt' p (dR w j o) a left f n back bv')/\
   (∀k,Old k cnt->k≠kt->k≠kr->k≠⟨0,t,g⟩->en' k=en k)/\ ∀t,cnt 0 t<=cnt' 0 t:=by
 have s1:=h.okt.set;have s2:=h.okr.set;have n1:=h.okt.new;have n2:=h.okr.new;have hn:=h.ne;have ht:=h.t;have hr:=h.r;have m1:=h.okt.eqF;have m2:=h.okr.eqF;have o1:=h.okt.eqF';have o2:=h.okr.eqF';have x1: ∀(en:En) (e:Option Ent),En.set en kt e kr=en kr:=fun _ _=>aK hn;have x2: ∀(en:En) (e:Option Ent),En.set en kr e kt=en kt:=fun _ _=>aK hn.symm
 have hl:(w.objs.map aR.enc).length<=16777216:=by rw[bOc];omega
 have hC:=xW (w.objs.map aR.enc) (xU _) hl;have hne:w.objs.map aR.enc≠[]:=by intro he;have h0:=congrArg List.length he;simp at h0;rw[h0]at hj;simp at hj
 rw[oK hne]at hC;have hget:(w.objs.map aR.enc)[j]?=some (aR.enc w.objs[j]):=by simp[hj]
 have hS:(w.objs.map aR.enc).set j (.agg [.i o.form,.i o.n,.fz (o.vals.map aE.enc),.fz (o.frames.map aA.enc)])=(dR w j o).objs.map aR.enc:=by simp[dR,bQi,aR.enc]
 have hSl:w.objs.length=((dR w j o).objs.map aR.enc).length:=by simp[dR]
 have hT:List.take o.vals.length (o.vals.map aE.enc)=o.vals.map aE.enc:=by rw[bOt (by simp)]
 have hob:Old ⟨0,t,g⟩ cnt:=⟨rfl,hg⟩;have b1:=hob.set;have bn:(⟨0,t,g⟩:Key)≠⟨0,18,cnt 0 18⟩:=hob.ne;have bF:((⟨0,t,g⟩:Key)=⟨0,18,cnt 0 18⟩)=False:=by simp only[eq_iff_iff,iff_false];exact bn
 have q1:(⟨0,t,g⟩:Key)≠kr:=by rintro rfl;rw[hr]at hb;cases hb
 have q2:(⟨0,t,g⟩:Key)≠kt:=by rintro rfl;rw[ht]at hb;cases hb
 have b2: ∀(en:En) (e:Option Ent),En.set en kr e ⟨0,t,g⟩=en ⟨0,t,g⟩:=fun _ _=>aK q1
 have b3: ∀(en:En) (e:Option Ent),En.set en ⟨0,t,g⟩ e ⟨0,18,cnt 0 18⟩=en ⟨0,18,cnt 0 18⟩:=fun _ _=>aK bn.symm
 have b4: ∀(en:En) (e:Option Ent),En.set en ⟨0,t,g⟩ e kr=en kr:=fun _ _=>aK q1.symm
 have b5: ∀(en:En) (e:Option Ent),En.set en ⟨0,t,g⟩ e kt=en kt:=fun _ _=>aK q2.symm
 have hL:=at_ Tryz.func334
 conv at hL=>rhs;reduce
 refine qI hL rfl rfl ?_
 simp only[go_sem,kK]
 refine aJ ?_
 simp only[go_sem,ht,hr,s1,s2,n2,m1,x2,kB,hC.ret,kA,kF];rcases hF with rfl|rfl<;>
 (simp only[go_sem,n2,hget,hj,b1,b2,b3,bF,hb,bOc,eH,bQo,bPc,bN9,W.apply,Ent.freeze,decide_not,bOs,decide_false,hT,hS]
  have hu: ∀t,cnt 0 t<=aC (aC cnt 0 5 (cnt 0 5+1)) 0 18 (cnt 0 18+1) 0 t:=(by(repeat refine upS ?_ (by omega));exact aN _)
  rw[aS8 (K1:=[⟨0,18,cnt 0 18⟩]) (K2:=[]) (K3:=[]) (K4:=[]) (os:=(dR w j o).objs.map aR.enc) (by simp only[s1,b5,x2];exact ht) (by simp only[s2,b4,cB];rfl) (sA cB hSl) rfl rfl rfl (by simp[o2])]
  refine⟨⟨bv,h.okt.up hu,h.okr.up hu,hn,h.ob,?_,cB⟩,fun k hk k1 k2 k3=>?_,hu⟩
  ·rw[x2,uR h.okt (aA9 18)];simp only[s1,b5,x2];exact ht
  ·rw[aK k2,uR hk (aA9 18),hk.set,aK k3,aK k2,hk.set,hk.set])
theorem aD8 (env l:List aE)(hc:env.length+l.length<=30):PC L 330 [.fz (env.map aE.enc),.fz (l.map aE.enc)] (.fz ((env++l).map aE.enc)):=by
 have hw:IntKind.i64.wrap ((env.length:Int)+(l.length:Int))=((env.length+l.length:Nat):Int):=by rw[aY (by omega)];omega
 have d:decide (((env.length+l.length:Nat):Int)<=30)=true:=decide_eq_true (by omega)
 have hl:env.length+l.length<=16777216:=by omega
 have hL:=at_ Tryz.func330
 conv at hL=>rhs;reduce
 refine aH hL rfl rfl ?_
 simp only[go_sem,kK]
 refine cU ?_
 simp only[go_sem,hw,d,bOc,(gD _).ret,(aAc _).ret,bS,dU,tT,rZ,hl]
 by_cases h0:l=[]
 ·subst h0;simp only[go_sem,bOq,aJq,bPa]
 ·have hne:l.map aE.enc≠[]:=by simpa using h0
  simp only[go_sem,aA8 hne,bOc,bOr,bN9];rw[<-bPn,bOt (by simp)]
theorem aHh (env l:List aE)(hc:30<env.length+l.length)(hs:env.length+l.length<=1000000):PX L 330 [.fz (env.map aE.enc),.fz (l.map aE.enc)] (aD3 4):=by
 have hw:IntKind.i64.wrap ((env.length:Int)+(l.length:Int))=((env.length+l.length:Nat):Int):=by rw[aY (by omega)];omega
 have d:decide (((env.length+l.length:Nat):Int)<=30)=false:=decide_eq_false (by omega)
 have hL:=at_ Tryz.func330
 conv at hL=>rhs;reduce
 refine aIp hL rfl rfl ?_
 simp only[go_sem,kK]
 refine eX 6 rfl ?_
 simp only[go_sem,bOp,bOm,hw,d,bOc,(jO _).ret]
theorem wP (h:TS kt kr en cnt p w a left f n back bv){i:Nat}(hi:i<n.kids.length)(hev:gV ev (env.map aE.enc))(hc:left.length<40):
  WIn L (.fn 223 [] []) [.ptr kt 0,.i i,ev] en cnt fun r en' cnt'=>r=aNx/\ (∃bv',TS kt kr en' cnt' p w a (left++[⟨n.kids.getD i 0,env,[]⟩]) f n back bv')/\ dI kt kr en cnt en' cnt':=by
 have H:=h.pre;have ht:=h.t;have hg:n.kids.getD i 0=n.kids[i]:=by simp[bOd,hi]
 have hL:=at_ Tryz.func223
 conv at hL=>rhs;reduce
 refine bO hL rfl rfl ?_
 simp only[go_sem,kK]
 refine cU ?_
 rcases hev with rfl|rfl<;>
 (simp only[go_sem,ht,kB,hi]
  refine(aD7 h (l:=[⟨n.kids.getD i 0,env,[]⟩]) (.inr (by rw[hg];rfl)) (by simp only[bOh,bOo];omega)).mono ?_
  rintro v e1 c1 ⟨_,t1,k1⟩
  exact⟨rfl,t1,k1⟩)
theorem wQ (h:TS kt kr en cnt p w a left f n back bv){i:Nat}(hi:i<n.kids.length)(hev:gV ev (env.map aE.enc))(hc:left.length=40):
  vC L 223 [.ptr kt 0,.i i,ev] en cnt (oB kt kr en cnt p 4):=by
 have H:=h.pre;have ht:=h.t;have hg:n.kids.getD i 0=n.kids[i]:=by simp[bOd,hi]
 have hL:=at_ Tryz.func223
 conv at hL=>rhs;reduce
 refine bW hL rfl rfl ?_
 simp only[go_sem,kK]
 refine eX 12 rfl ?_
 rcases hev with rfl|rfl<;>
 (simp only[go_sem,bOp,bOm,ht,kB,hi]
  exact aJs h (l:=[⟨n.kids.getD i 0,env,[]⟩]) (.inr (by rw[hg];rfl)) (by simp;omega) (by simp;omega))
theorem qF (h:TS kt kr en cnt p w a left f n back bv){v:aE}(hv:v.kind=5->inR v.n 0 ((w.objs.length:Int)-1)=true)(form:Int):
  WIn L (.fn 359 [] []) [.ptr kt 0,.agg [.i v.kind,.i v.n],.i form] en cnt fun r en' cnt'=>(∃x,r= .tup [x,.bool (cV w v form)]/\ (x= .agg [.i 0,.i 0,.cl [],.cl []]/\ cV w v form=false \/x=aR.enc (w.obj v.n)/\ cV w v form=true))/\ (∃bv',TS kt kr en' cnt' p w a left f n back bv')/\ dI kt kr en cnt en' cnt':=by
 have H:=h.pre;have ht:=h.t;have hr:=h.r;have hL:=at_ Tryz.func359
 conv at hL=>rhs;reduce
 refine bO hL rfl rfl ?_
 by_cases h5:v.kind=5
 ·have d5:decide (v.kind=5)=true:=decide_eq_true h5;have hin:=hv h5;have hob:=fun en=>xL (w:=w) (i:=v.n) (k:= .i64) (en:=en) hin
  by_cases hf:(w.obj v.n).form=form
  ·have df:decide ((w.obj v.n).form=form)=true:=decide_eq_true hf;have hI:cV w v form=true:=by simp[cV,h5,hf]
   simp only[go_sem,kK,H,ht,hr,d5,hob,df];exact⟨⟨_,by rw[hI],.inr ⟨rfl,hI⟩⟩,h.stay (fun k hk=>by simp only[hk.set]) (by(repeat refine upS ?_ (by omega));exact aN _)⟩
  ·have df:decide ((w.obj v.n).form=form)=false:=decide_eq_false hf;have hI:cV w v form=false:=by simp[cV,h5,hf]
   simp only[go_sem,kK,H,ht,hr,d5,hob,df];exact⟨⟨_,by rw[hI],.inl ⟨rfl,hI⟩⟩,h.stay (fun k hk=>by simp only[hk.set]) (by(repeat refine upS ?_ (by omega));exact aN _)⟩
 ·have d5:decide (v.kind=5)=false:=decide_eq_false h5;have hI:cV w v form=false:=by simp[cV,h5]
  simp only[go_sem,kK,d5];exact⟨⟨_,by rw[hI],.inl ⟨rfl,hI⟩⟩,h.stay (fun k hk=>by simp only[hk.set]) (by(repeat refine upS ?_ (by omega));exact aN _)⟩
theorem tU (h:TS kt kr en cnt p w a left f n back bv){v:aE}(hv:v.kind=5->inR v.n 0 ((w.objs.length:Int)-1)=true)(form:Int)(hI:cV w v form=true):
  WIn L (.fn 329 [] []) [.ptr kt 0,.agg [.i v.kind,.i v.n],.i form] en cnt fun r en' cnt'=>r= .agg [.i (w.obj v.n).form,.i (w.obj v.n).n,.fz ((w.obj v.n).vals.map aE.enc),.fz ((w.obj v.n).frames.map aA.enc)]/\ (∃bv',TS kt kr en' cnt' p w a left f n back bv')/\ dI kt kr en cnt en' cnt':=by
 have hL:=at_ Tryz.func329
 conv at hL=>rhs;reduce
 refine bO hL rfl rfl ?_
 simp only[go_sem,kK];obtain⟨⟨bv1,h1⟩,k1⟩:=h.stay (cnt':=aC (aC cnt 0 4 (cnt 0 4+1)) 0 6 (cnt 0 6+1)) (en':=(en.set ⟨0,4,cnt 0 4⟩ (some (.box [.i v.kind,.i v.n] false))).set ⟨0,6,cnt 0 6⟩ (some (.box [.i 0,.i 0,.cl [],.cl []] false))) (fun k hk=>by simp only[hk.set]) (by(repeat refine upS ?_ (by omega));exact aN _)
 refine(qF h1 hv form).mono ?_
 rintro r e1 c1 ⟨⟨x,rfl,hx⟩,⟨bv2,h2⟩,k2⟩
 rcases hx with⟨_,hx⟩|⟨rfl,_⟩
 ·rw[hI]at hx;cases hx
 have o6:=k2.old ⟨0,6,cnt 0 6⟩ ⟨rfl,by simp only[go_sem];omega⟩ h.okt.ne.symm h.okr.ne.symm
 simp only[go_sem]at o6;have v6: ∀(en:En) (d:Nat) (e:Option Ent),En.set en ⟨0,d,c1 0 d⟩ e ⟨0,6,cnt 0 6⟩=en ⟨0,6,cnt 0 6⟩:=(Old.up (cnt:=aC (aC cnt 0 4 (cnt 0 4+1)) 0 6 (cnt 0 6+1)) ⟨rfl,by simp only[go_sem];omega⟩ k2.up).set
 have w6: ∀(en:En) (d:Nat) (e:Option Ent),En.set en ⟨0,6,cnt 0 6⟩ e ⟨0,d,c1 0 d⟩=en ⟨0,d,c1 0 d⟩:=(Old.up (cnt:=aC (aC cnt 0 4 (cnt 0 4+1)) 0 6 (cnt 0 6+1)) ⟨rfl,by simp only[go_sem];omega⟩ k2.up).new
 simp only[go_sem,hI]
 refine cU ?_
 simp only[go_sem,(gD _).ret,o6,v6];exact h.fin h2 (k1.trans k2) (fun k hk hj=>by simp only[hk.set,hj.set]) (by(repeat refine upS ?_ (by omega));exact aN _)
theorem tV (h:TS kt kr en cnt p w a left f n back bv){v:aE}(hv:v.kind=5->inR v.n 0 ((w.objs.length:Int)-1)=true)(form:Int)(hI:cV w v form=false):
  vC L 329 [.ptr kt 0,.agg [.i v.kind,.i v.n],.i form] en cnt (oB kt kr en cnt p 2):=by
 have hL:=at_ Tryz.func329
 conv at hL=>rhs;reduce
 refine bW hL rfl rfl ?_
 simp only[go_sem,kK];obtain⟨⟨bv1,h1⟩,k1⟩:=h.stay (cnt':=aC (aC cnt 0 4 (cnt 0 4+1)) 0 6 (cnt 0 6+1)) (en':=(en.set ⟨0,4,cnt 0 4⟩ (some (.box [.i v.kind,.i v.n] false))).set ⟨0,6,cnt 0 6⟩ (some (.box [.i 0,.i 0,.cl [],.cl []] false))) (fun k hk=>by simp only[hk.set]) (by(repeat refine upS ?_ (by omega));exact aN _)
 refine(qF h1 hv form).mono ?_
 rintro r e1 c1 ⟨⟨x,rfl,hx⟩,⟨bv2,h2⟩,k2⟩
 rcases hx with⟨rfl,_⟩|⟨_,hx⟩
 case inr=>rw[hI]at hx;cases hx
 simp only[go_sem,hI]
 refine eX 1 rfl ?_
 simp only[go_sem,bOp,bOm,(jO _).ret];obtain⟨⟨bv3,h3⟩,k3⟩:=h.fin h2 (k1.trans k2) (en2:=(e1.set ⟨0,7,c1 0 7⟩ (some (.box [.i 0,.i 0,.cl [],.cl []] false))).set ⟨0,7,c1 0 7⟩ (some (.box [.i 0,.i 0,.cl [],.cl []] false))) (cnt2:=aC c1 0 7 (c1 0 7+1)) (fun k hk hj=>by simp only[hj.set]) (by(repeat refine upS ?_ (by omega));exact aN _)
 exact⟨rfl,k3,h3.rb⟩
theorem aQx {l:List aE}(h:1<l.length):oP 2 en (.fz (l.map aE.enc)) (.i 1)=some {v:= .fp [.i (aF l 1).kind,.i (aF l 1).n] 0}:=by
 have e:aF l 1=l[1]:=by simp[aF,bOd,h]
 rw[e];exact aSo (k:= .i64) (j:=1) h rfl
theorem aJu {l:List aE}(h:0<l.length):oP 2 en (.fz (l.map aE.enc)) (.i 0)=some {v:= .fp [.i (aF l 0).kind,.i (aF l 0).n] 0}:=by
 have e:aF l 0=l[0]:=by simp[aF,bOd,h]
 rw[e];exact aSo (k:= .i64) (j:=0) h rfl
theorem aQy (h:TS kt kr en cnt p w a left f n back bv)(hv:f.vals.length=2)(h1:(aF f.vals 0).kind=1)(h2:(aF f.vals 1).kind=1):
  WIn L (.fn 331 [] []) [.ptr kt 0] en cnt fun r en' cnt'=>r= .tup [.i (aF f.vals 0).n,.i (aF f.vals 1).n]/\ en'=en/\ cnt'=cnt:=by
 have ht:=h.t;have d1:decide ((aF f.vals 0).kind=1)=true:=decide_eq_true h1;have d2:decide ((aF f.vals 1).kind=1)=true:=decide_eq_true h2;have hL:=at_ Tryz.func331
 conv at hL=>rhs;reduce
 refine bO hL rfl rfl ?_
 simp only[go_sem,kK]
 refine cU ?_
 simp only[go_sem,kK,ht,aJu (l:=f.vals) (by omega),aQx (l:=f.vals) (by omega),d1,d2,(gD _).ret]
theorem aQz (h:TS kt kr en cnt p w a left f n back bv)(hv:f.vals.length=2)(h12: ¬(aF f.vals 0).kind=1 \/ ¬(aF f.vals 1).kind=1):
  vC L 331 [.ptr kt 0] en cnt (oB kt kr en cnt p 2):=by
 have ht:=h.t;have hL:=at_ Tryz.func331
 conv at hL=>rhs;reduce
 refine bW hL rfl rfl ?_
 simp only[go_sem,kK]
 refine eX 20 rfl ?_
 by_cases h1:(aF f.vals 0).kind=1
 ·have d1:decide ((aF f.vals 0).kind=1)=true:=decide_eq_true h1;have d2:decide ((aF f.vals 1).kind=1)=false:=decide_eq_false (by rcases h12 with h|h;exact absurd h1 h;exact h)
  simp only[go_sem,kK,bOp,bOm,ht,aJu (l:=f.vals) (by omega),aQx (l:=f.vals) (by omega),d1,d2,(jO _).ret]
  exact⟨rfl,dI.refl _ _ _ _,h.rb⟩
 ·have d1:decide ((aF f.vals 0).kind=1)=false:=decide_eq_false h1;simp only[go_sem,kK,bOp,bOm,ht,aJu (l:=f.vals) (by omega),d1,(jO _).ret]
  exact⟨rfl,dI.refl _ _ _ _,h.rb⟩
end
structure bN5 (en:En) (cnt:Nat->Nat->Nat) (en':En) (cnt':Nat->Nat->Nat):Prop where
 old: ∀t g,g<cnt 0 t->en' ⟨0,t,g⟩=en ⟨0,t,g⟩
 up: ∀t,cnt 0 t<=cnt' 0 t
def wR (en:En)(cnt:Nat->Nat->Nat)(v:Val)(size:Nat)(xs:List Val)(t:Nat):Prop:=(v= .cl []/\ xs=[]) \/ ∃g,v= .bl ⟨0,t,g⟩ 0 xs.length/\ en ⟨0,t,g⟩=some (.blk size xs false)/\ g<cnt 0 t/\ xs.isEmpty=false
variable {ga:Nat}
theorem iV {a:Nat}(h:cnt 0 a<=ga)(hg:g<cnt 0 t):En.set en ⟨0,a,ga⟩ e ⟨0,t,g⟩=en ⟨0,t,g⟩:=by
 refine pU fun he=>?_
 injection he with h1 h2 h3
 subst h2;subst h3;omega
theorem nG {a:Nat}(h: ∀t,cnt 0 t<=c 0 t)(hg:ga=cnt 0 a): ∀t,cnt 0 t<=aC c 0 a (ga+1) 0 t:=by
 intro t
 by_cases ht:t=a
 ·subst ht;rw[aX6];omega
 ·rw[aX7 ht];exact h t
theorem wR.keep (h:wR en cnt v size xs t)(he: ∀g,g<cnt 0 t->en' ⟨0,t,g⟩=en ⟨0,t,g⟩)(hc:cnt 0 t<=cnt' 0 t):wR en' cnt' v size xs t:=by
 rcases h with h|⟨g,h1,h2,h3,h4⟩
 ·exact .inl h
 ·exact .inr ⟨g,h1,by rw[he g h3];exact h2,by omega,h4⟩
theorem aJv {off len:Nat}:iC en (.bl k off len)=(match en k with
  |some (.blk _ xs _)=>if off+len<=xs.length/\ k.deep=false then some ((xs.drop off).take len,[.val k])else none
  |_=>none):=(rfl)
def aD9 (en:En)(cnt:Nat->Nat->Nat)(w:aB)(vO vT vU vI:Val):Prop:=
 (vO= .fz (w.objs.map aR.enc)/\ vT= .fz (w.tasks.map (.int .i64))/\ vU= .fz (w.outs.map bJ.enc)/\ vI= .fz (w.ins.map (.int .i64))) \/
 ∃gO gT,vO= .bl ⟨0,22,gO⟩ 0 w.objs.length/\ en ⟨0,22,gO⟩=some (.blk 4 (w.objs.map aR.enc) false)/\ gO<cnt 0 22/\ vT= .bl ⟨0,8,gT⟩ 0 w.tasks.length/\ en ⟨0,8,gT⟩=some (.blk 1 (w.tasks.map (.int .i64)) false)/\ gT<cnt 0 8/\
  wR en cnt vU 2 (w.outs.map bJ.enc) 11/\ wR en cnt vI 1 (w.ins.map (.int .i64)) 14
variable {vO vI vU vT:Val}
theorem aD9.keep (h:aD9 en cnt w vO vT vU vI)(he: ∀t g,g<cnt 0 t->en' ⟨0,t,g⟩=en ⟨0,t,g⟩)(hc: ∀t,cnt 0 t<=cnt' 0 t):aD9 en' cnt' w vO vT vU vI:=by
 rcases h with h|⟨gO,gT,h1,h2,h3,h4,h5,h6,h7,h8⟩
 ·exact .inl h
 ·exact .inr ⟨gO,gT,h1,by rw[he _ _ h3];exact h2,bOy h3 (hc _),h4,by rw[he _ _ h6];exact h5,bOy h6 (hc _),h7.keep (fun g hg=>he _ g hg) (hc _),h8.keep (fun g hg=>he _ g hg) (hc _)⟩
theorem aAd (en:En)(cnt:Nat->Nat->Nat)(w:aB):aD9 en cnt w (.fz (w.objs.map aR.enc)) (.fz (w.tasks.map (.int .i64))) (.fz (w.outs.map bJ.enc)) (.fz (w.ins.map (.int .i64))):= .inl ⟨rfl,rfl,rfl,rfl⟩
structure uS (en:En) (cnt:Nat->Nat->Nat) (w:aB) (tail:List Val) (v:Val) (en':En) (cnt':Nat->Nat->Nat):Prop where
 parts: ∃g5 g8 vU vI,v= .agg (.bl ⟨0,5,g5⟩ 0 w.objs.length:: .bl ⟨0,8,g8⟩ 0 w.tasks.length::vU::vI:: .i w.used::tail)/\
   en' ⟨0,5,g5⟩=some (.blk 4 (w.objs.map aR.enc) false)/\ cnt 0 5<=g5/\ g5<cnt' 0 5/\ en' ⟨0,8,g8⟩=some (.blk 1 (w.tasks.map (.int .i64)) false)/\ cnt 0 8<=g8/\ g8<cnt' 0 8/\ wR en' cnt' vU 2 (w.outs.map bJ.enc) 11/\ wR en' cnt' vI 1 (w.ins.map (.int .i64)) 14
 old: ∀t g,g<cnt 0 t->en' ⟨0,t,g⟩=en ⟨0,t,g⟩
 up: ∀t,cnt 0 t<=cnt' 0 t
theorem aEa (w:aB)(h1:0<w.objs.length)(h2:0<w.tasks.length)(hl:w.objs.length<=130/\ w.tasks.length<=130/\ w.outs.length<=110/\ w.ins.length<=60)(hL:aD9 en cnt w vO vT vU vI):
  WIn L (.fn 175 [] []) [.agg [vO,vT,vU,vI,.i w.used]] en cnt fun v en' cnt'=>uS en cnt w [] v en' cnt':=by
 obtain⟨objs,tasks,outs,ins,used⟩:=w;dsimp only at h1 h2 hl;have hl1:objs.length<=16777216:=by omega
 have hl2:tasks.length<=16777216:=by omega
 have hl3:outs.length<=16777216:=by omega
 have hl4:ins.length<=16777216:=by omega
 have he1:objs.isEmpty=false:=aJl h1;have he2:tasks.isEmpty=false:=aJl h2;have tk1:((objs.map aR.enc).take objs.length)=objs.map aR.enc:=bOt (by simp)
 have tk2:((tasks.map (Val.int .i64)).take tasks.length)=tasks.map (.int .i64):=bOt (by simp)
 have tk3:((outs.map bJ.enc).take outs.length)=outs.map bJ.enc:=bOt (by simp)
 have tk4:((ins.map (Val.int .i64)).take ins.length)=ins.map (.int .i64):=bOt (by simp)
 obtain⟨g1,hg1⟩: ∃g,g=cnt 0 1:=⟨_,rfl⟩
 obtain⟨g2,hg2⟩: ∃g,g=cnt 0 2:=⟨_,rfl⟩
 obtain⟨g5,hg5⟩: ∃g,g=cnt 0 5:=⟨_,rfl⟩
 obtain⟨g8,hg8⟩: ∃g,g=cnt 0 8:=⟨_,rfl⟩
 obtain⟨g11,hg11⟩: ∃g,g=cnt 0 11:=⟨_,rfl⟩
 obtain⟨g14,hg14⟩: ∃g,g=cnt 0 14:=⟨_,rfl⟩
 have fin: ∀{vU vI:Val} {en':En} {cnt':Nat->Nat->Nat},en' ⟨0,5,g5⟩=some (.blk 4 (objs.map aR.enc) false)->g5<cnt' 0 5->en' ⟨0,8,g8⟩=some (.blk 1 (tasks.map (.int .i64)) false)->g8<cnt' 0 8->wR en' cnt' vU 2 (outs.map bJ.enc) 11->wR en' cnt' vI 1 (ins.map (.int .i64)) 14->
   (∀t g,g<cnt 0 t->en' ⟨0,t,g⟩=en ⟨0,t,g⟩)->(∀t,cnt 0 t<=cnt' 0 t)->uS en cnt ⟨objs,tasks,outs,ins,used⟩ [] (.agg [.bl ⟨0,5,g5⟩ 0 objs.length,.bl ⟨0,8,g8⟩ 0 tasks.length,vU,vI,.i used]) en' cnt':=
  fun a1 a2 a3 a4 a5 a6 a7 a8=>⟨⟨g5,g8,_,_,rfl,a1,by omega,a2,a3,by omega,a4,a5,a6⟩,a7,a8⟩
 have old: ∀{t g:Nat},g<cnt 0 t-> ∀{e:En} {a ga:Nat} {x:Option Ent},ga=cnt 0 a->En.set e ⟨0,a,ga⟩ x ⟨0,t,g⟩=e ⟨0,t,g⟩:=fun hg _ _ _ _ h=>iV (bPi h.symm) hg
 have hLz:=at_ Tryz.func175
 conv at hLz=>rhs;reduce
 refine bO hLz rfl rfl ?_
 rcases hL with⟨rfl,rfl,rfl,rfl⟩|⟨gO,gT,rfl,eO,lO,rfl,eT,lT,mU,mI⟩
 ·simp only[go_sem,kK,<-hg1,<-hg2]
  refine aJ ?_
  cases hu:outs.isEmpty<;>cases hi:ins.isEmpty
  all_goals
   try(have hu':outs=[]:=(by simpa using hu);subst hu')
   try(have hi':ins=[]:=(by simpa using hi);subst hi')
   simp only[go_sem,bS,dU,mL,iN,gX,he1,he2,hu,hi,hl1,hl2,hl3,hl4,xU,aA6,aNv,bOc,bOq,<-hg5,<-hg8,<-hg11,<-hg14,kB,kA,bOa,if_false]
   refine fin (by simp only[go_sem]) (by simp[aC]) (by simp only[go_sem]) (by simp[aC]) ?_ ?_ ?_ ?_
   ·first
     |exact .inl ⟨rfl,rfl⟩
     |exact .inr ⟨g11,by rw[bOc],by simp only[go_sem],by simp[aC],by rw[gX];exact hu⟩
   ·first
     |exact .inl ⟨rfl,rfl⟩
     |exact .inr ⟨g14,by rw[bOc],by simp only[go_sem],by simp[aC],by rw[gX];exact hi⟩
   ·intro t g hg;simp only[old hg hg1,old hg hg2,old hg hg5,old hg hg8,old hg hg11,old hg hg14]
   ·repeat' (refine nG ?_ (by assumption))
    exact fun _=>bN9 _
 ·dsimp only at eO eT;have eU:=True.intro;have eI:=True.intro;rcases mU with⟨rfl,hu⟩|⟨gU,rfl,eU,lU,hu⟩<;>rcases mI with⟨rfl,hi⟩|⟨gI,rfl,eI,lI,hi⟩
  all_goals try dsimp only at eU
  all_goals try dsimp only at eI
  all_goals
   try(have hu':outs=[]:=(by simpa using hu);subst hu')
   try(have hi':ins=[]:=(by simpa using hi);subst hi')
   simp only[go_sem,kK,<-hg1,<-hg2]
   refine aJ ?_
   try(have hu:=hu;rw[gX]at hu)
   try(have hi:=hi;rw[gX]at hi)
   simp only[go_sem,bS,dU,aJv,mL,iN,gX,he1,he2,hu,hi,hl1,hl2,hl3,hl4,tk1,tk2,tk3,tk4,xU,aA6,aNv,bOc,bOq,bN9,<-hg5,<-hg8,<-hg11,<-hg14,eO,eT,eU,eI,kB,kA,bOa,if_false]
   refine fin (by simp only[go_sem]) (by simp[aC]) (by simp only[go_sem]) (by simp[aC]) ?_ ?_ ?_ ?_
   ·first
     |exact .inl ⟨rfl,rfl⟩
     |exact .inr ⟨g11,by rw[bOc],by simp only[go_sem],by simp[aC],by rw[gX];assumption⟩
   ·first
     |exact .inl ⟨rfl,rfl⟩
     |exact .inr ⟨g14,by rw[bOc],by simp only[go_sem],by simp[aC],by rw[gX];assumption⟩
   ·intro t g hg;simp only[old hg hg1,old hg hg2,old hg hg5,old hg hg8,old hg hg11,old hg hg14]
   ·repeat' (refine nG ?_ (by assumption))
    exact fun _=>bN9 _
theorem wR.shape (h:wR en cnt v size xs t):v.one=true/\ v.cells=[v]:=by
 rcases h with⟨rfl,_⟩|⟨g,rfl,_⟩<;>exact⟨rfl,rfl⟩
structure aBw (a x:Val):Prop where
 snap: ∀n en,snapD (n+1) en a=some (a,[])
 wk:a.wk0=x
 one:a.one=true
 cells:a.cells=[a]
theorem rB (xs:List Val):aBw (.fz xs) (.fz xs):=⟨fun _ _=>rfl,rfl,rfl,rfl⟩
theorem aEb (xs:List Val):aBw (.cl xs) (.fz xs):=⟨fun _ _=>rfl,rfl,rfl,rfl⟩
theorem aUc (w:aB)(j:Nat)(o:aR){a b:Val}(ha:aBw a (.fz (o.vals.map aE.enc)))(hb:aBw b (.fz (o.frames.map aA.enc)))(hj:j<w.objs.length)(ht:0<w.tasks.length)(hl:w.objs.length<=130/\ w.tasks.length<=130/\ w.outs.length<=110/\ w.ins.length<=60)(hL:aD9 en cnt w vO vT vU vI)
  (hs:(vO.one=true/\ vO.cells=[vO])/\ (vT.one=true/\ vT.cells=[vT])/\ (vU.one=true/\ vU.cells=[vU])/\ (vI.one=true/\ vI.cells=[vI])):
  WIn L (.fn 126 [] []) [.agg [vO,vT,vU,vI,.i w.used],.i j,.agg [.i o.form,.i o.n,a,b]] en cnt fun v en' cnt'=>uS en cnt (dR w j o) [] v en' cnt':=by
 obtain⟨g3,hg3⟩: ∃g,g=cnt 0 3:=⟨_,rfl⟩
 obtain⟨gA,hgA⟩: ∃g,g=cnt 0 5:=⟨_,rfl⟩
 obtain⟨g6,hg6⟩: ∃g,g=cnt 0 6:=⟨_,rfl⟩
 have hget:(w.objs.map aR.enc)[j]?=some (aR.enc w.objs[j]):=by simp[hj]
 have up0: ∀t,cnt 0 t<=aC (aC (aC cnt 0 3 (g3+1)) 0 5 (gA+1)) 0 6 (g6+1) 0 t:=nG (nG (nG (fun _=>bN9 _) hg3) hgA) hg6
 have hLz:=at_ Tryz.func126
 conv at hLz=>rhs;reduce
 refine bO hLz rfl rfl ?_
 simp only[go_sem,kK,<-hg3,<-hgA,<-hg6]
 refine(aEa w (by omega) ht hl (hL.keep (fun t g hg=>?_) up0)).mono ?_
 ·rw[iV (bPi hg6.symm) hg,iV (bPi hgA.symm) hg,iV (bPi hg3.symm) hg]
 rintro v en' cnt' ⟨⟨g5,g8,vU',vI',rfl,e5,l5,m5,e8,l8,m8,mU,mI⟩,old,up⟩
 have e3:=old 3 g3 (by simp[aC])
 have eA:=old 5 gA (by simp[aC])
 have e6:=old 6 g6 (by simp[aC])
 have l5':gA<g5:=by have:=l5;simp[aC]at this;omega
 try simp only[go_sem]at e3 eA e6
 simp only[go_sem,e3,eA,e6,e5,hget,hj,ha.snap,hb.snap,ha.wk,hb.wk,bQo,bPc]
 refine⟨⟨g5,g8,vU',vI',?_,?_,by omega,m5,?_,bOk (up0 8) l8,m8,?_,?_⟩,fun t g hg=>?_,fun t=>bOk (up0 t) (up t)⟩
 ·simp only[dR,bPc,bP9]
 ·simp only[go_sem,dR,bQi,bPc]
 ·simp only[go_sem,e8,dR]
 ·exact mU.keep (fun g _=>by simp only[go_sem]) (bN9 _)
 ·exact mI.keep (fun g _=>by simp only[go_sem]) (bN9 _)
 ·rw[iV (bPi hg6.symm) hg,iV (by omega) hg,iV (bPi hg3.symm) hg,old t g (bOy hg (up0 t)),iV (bPi hg6.symm) hg,iV (bPi hgA.symm) hg,iV (bPi hg3.symm) hg]
theorem aD9.shape (h:aD9 en cnt w vO vT vU vI):
  (vO.one=true/\ vO.cells=[vO])/\ (vT.one=true/\ vT.cells=[vT])/\ (vU.one=true/\ vU.cells=[vU])/\ (vI.one=true/\ vI.cells=[vI]):=by
 rcases h with⟨rfl,rfl,rfl,rfl⟩|⟨gO,gT,rfl,_,_,rfl,_,_,mU,mI⟩
 ·exact⟨⟨rfl,rfl⟩,⟨rfl,rfl⟩,⟨rfl,rfl⟩,rfl,rfl⟩
 ·exact⟨⟨rfl,rfl⟩,⟨rfl,rfl⟩,mU.shape,mI.shape⟩
theorem aFe {f:Nat}{lf:iR}{args:List Val}(hL:L f=some lf)(hk:lf.keep=false)(hn:args.length=lf.np)(ha:vR lf args=false)
  (h:WIn L (.fn f [] []) args (fun _=>none) (fun _ _=>0) fun v en' _=> ∃r' ks,snapD 8 en' v=some (r',ks)/\ r'.wk=r) (hz:lf.nrm=[]:=by rfl):PC L f args r:=by
 obtain⟨v,en',cnt',⟨n0,h0⟩,r',ks,h1,h2⟩:=h
 refine⟨n0,fun n hm=>?_⟩
 have hx:=h0 n hm (fun _=> .tup [])
 simp only[Inl.call,eJ,yU,bPb,bPa]at hx;have hx:jZ L (exec L n) f args ⟨fun _=> .tup [],fun _=>none,fun _ _=>0⟩=some (v,⟨fun _=> .tup [],en',cnt'⟩):=by
  split at hx
  case h_2=>cases hx
  rename_i hw;simp only[hL,hz,norms,bN7]at hx;rw[hw];exact congrArg some hx
 simp only[jZ,hL,hn,if_true,ha,bOa,if_false]at hx;simp only[kQ,bK,hL,hn,if_true,ha,bOa,if_false,iH,Go.Abs.start]
 split at hx
 ·rename_i e st' he
  split at hx
  ·rename_i hend;simp only[hend,if_true];obtain⟨vs,hvs,heq⟩:=bOj.1 hx;simp only[bOb,St.mk.injEq]at heq;obtain⟨rfl,_,rfl,_⟩:=heq;simp only[aCw,hvs,hk,bOa,if_false,tD _ _ _ _ h1 8 (bN9 _),h2]
  ·cases hx
 ·cases hx
theorem wR.snapB (h:wR en cnt v size xs t)(n:Nat): ∃r ks,snapD (n+1) en v=some (r,ks)/\ r.wk0= .fz xs:=by
 rcases h with⟨rfl,rfl⟩|⟨g,rfl,h2,_⟩
 ·exact⟨.cl [],[],rfl,rfl⟩
 ·exact⟨.fz xs,[⟨0,t,g⟩],by simp[snapD,aIs,h2],rfl⟩
theorem uS.snap (h:uS en cnt w [] v en' cnt'): ∃r ks,snapD 8 en' v=some (r,ks)/\ r.wk= .agg w.cs:=by
 obtain⟨⟨g5,g8,vU,vI,rfl,e5,_,_,e8,_,_,mU,mI⟩,_,_⟩:=h;obtain⟨r1,k1,s1,t1⟩:=mU.snapB 6;obtain⟨r2,k2,s2,t2⟩:=mI.snapB 6;have l1:(w.objs.map aR.enc).take w.objs.length=w.objs.map aR.enc:=bOt (by simp)
 have l2:(w.tasks.map (Val.int .i64)).take w.tasks.length=w.tasks.map (.int .i64):=bOt (by simp)
 refine⟨_,_,by simp only[go_sem,e5,e8,s1,s2,l1,l2,bN9];rfl,?_⟩
 simp only[go_sem,t1,t2]
theorem uS.snapD {d:Did}(h:uS en cnt d.w [.i d.what,.i d.e.task,.i d.e.act,.i d.e.n,.i d.e.v.kind,.i d.e.v.n] v en' cnt'): ∃r ks,Go.Abs.snapD 8 en' v=some (r,ks)/\ r.wk= .agg [.fz (d.w.objs.map aR.enc),.fz (d.w.tasks.map (.int .i64)),.fz (d.w.outs.map bJ.enc),.fz (d.w.ins.map (.int .i64)),.i d.w.used,.i d.what,.i d.e.task,.i d.e.act,.i d.e.n,.i d.e.v.kind,.i d.e.v.n]:=by
 obtain⟨⟨g5,g8,vU,vI,rfl,e5,_,_,e8,_,_,mU,mI⟩,_,_⟩:=h;obtain⟨r1,k1,s1,t1⟩:=mU.snapB 6;obtain⟨r2,k2,s2,t2⟩:=mI.snapB 6;have l1:(d.w.objs.map aR.enc).take d.w.objs.length=d.w.objs.map aR.enc:=bOt (by simp)
 have l2:(d.w.tasks.map (Val.int .i64)).take d.w.tasks.length=d.w.tasks.map (.int .i64):=bOt (by simp)
 refine⟨_,_,by simp only[go_sem,e5,e8,s1,s2,l1,l2,bN9];rfl,?_⟩
 simp only[go_sem,t1,t2]
structure Fit (w:aB) (a:Int):Prop where
 len:w.objs.length<=130/\ w.tasks.length<=130/\ w.outs.length<=110/\ w.ins.length<=60
 at_:inR a 0 ((w.tasks.length:Int)-1)=true
 rng:inR (bQ w a) 0 ((w.objs.length:Int)-1)=true
theorem aNy (ha:inR a 0 ((w.tasks.length:Int)-1)=true):oP 1 en (.fz (w.tasks.map (.int .i64))) (.i a)=some {v:= .fp [.i (bQ w a)] 0}:=vD ha
theorem aJw (w:aB)(n:Int)(o:aR)(hn:inR n 0 ((w.objs.length:Int)-1)=true)(ht:0<w.tasks.length)(hl:w.objs.length<=130/\ w.tasks.length<=130/\ w.outs.length<=110/\ w.ins.length<=60):
  PC L 126 [.agg w.cs,.i n,.agg [.i o.form,.i o.n,.fz (o.vals.map aE.enc),.fz (o.frames.map aA.enc)]] (.agg (dR w n o).cs):=by
 simp only[inR,bRt]at hn;obtain⟨j,rfl⟩:=bQd hn.1;have hL:=aAd (fun _=>none) (fun _ _=>0) w
 have hLz:=at_ Tryz.func126
 conv at hLz=>rhs;reduce
 exact aFe hLz rfl rfl rfl ((aUc w j o (rB _) (rB _) (by omega) ht hl hL hL.shape).mono fun v en' cnt' h=>h.snap)
theorem fL (w:aB)(a st:Int)(hf:Fit w a):PC L 177 [.agg w.cs,.i a,.i st] (.agg [.fz ((bD w a st).w.objs.map aR.enc),.fz ((bD w a st).w.tasks.map (.int .i64)),.fz ((bD w a st).w.outs.map bJ.enc),.fz ((bD w a st).w.ins.map (.int .i64)),.i (bD w a st).w.used,.i (bD w a st).what,.i (bD w a st).e.task,.i (bD w a st).e.act,.i (bD w a st).e.n,.i (bD w a st).e.v.kind,.i (bD w a st).e.v.n]):=by
 have ha:=hf.at_;simp only[inR,bRt]at ha;have hS:=aJw w (bQ w a) ⟨6,st,[],[]⟩ hf.rng (by omega) hf.len
 have hLz:=at_ Tryz.func177
 conv at hLz=>rhs;reduce
 refine aH hLz rfl rfl ?_
 simp only[bOq]at hS;simp only[go_sem,kK,aNy hf.at_,hS.ret,bD,kR]
theorem aQ0 (w:aB)(a:Int)(left:List aA)(v:aE){c:Val}(hc:aBw c (.fz (left.map aA.enc)))(hf:Fit w a)(hL:aD9 en cnt w vO vT vU vI):
  WIn L (.fn 178 [] []) [.agg [vO,vT,vU,vI,.i w.used],.i a,c,.agg [.i v.kind,.i v.n]] en cnt fun x en' cnt'=>uS en cnt (bT w a left v).w [.i 0,.i 0,.i 0,.i 0,.i 0,.i 0] x en' cnt':=by
 have ha:=hf.at_;have hr:=hf.rng;simp only[inR,bRt]at ha hr;obtain⟨j,hj⟩:=bQd hr.1;obtain⟨i,rfl⟩:=bQd ha.1;have hi:i<w.tasks.length:=by omega
 have hti:w.tasks[i]=(j:Int):=by rw[<-hj];simp[bQ,bOd,hi]
 have hget:(w.tasks.map (Val.int .i64))[i]?=some (.i (j:Int)):=by simp[hi,hti]
 have hi1:((i:Int)<(w.tasks.length:Int)):=by omega
 obtain⟨⟨o1,o2⟩,⟨t1,t2⟩,⟨u1,u2⟩,⟨i1,i2⟩⟩:=hL.shape;obtain⟨g4,hg4⟩: ∃g,g=cnt 0 4:=⟨_,rfl⟩
 obtain⟨g7,hg7⟩: ∃g,g=cnt 0 7:=⟨_,rfl⟩
 obtain⟨g8,hg8⟩: ∃g,g=cnt 0 8:=⟨_,rfl⟩
 have up0: ∀t,cnt 0 t<=aC (aC (aC cnt 0 4 (g4+1)) 0 7 (g7+1)) 0 8 (g8+1) 0 t:=nG (nG (nG (fun _=>bN9 _) hg4) hg7) hg8
 have hD:(bT w i left v).w=dR w j ⟨6,0,[v],left⟩:=by simp only[bT,hj]
 rw[hD];have key:=fun{en1:En} (h: ∀t g,g<cnt 0 t->en1 ⟨0,t,g⟩=en ⟨0,t,g⟩)=>aUc w j ⟨6,0,[v],left⟩ (aEb [.agg [.i v.kind,.i v.n]]) hc (by omega) (by omega) hf.len (en:=en1) (cnt:=aC (aC (aC cnt 0 4 (g4+1)) 0 7 (g7+1)) 0 8 (g8+1)) (hL.keep h up0) hL.shape
 have hj':w.tasks.getD ((i:Int)).toNat 0=(j:Int):=hj;have oldS:=fun{e1:En} {x4 x7 x8:Option Ent} {t g:Nat} (hg:g<cnt 0 t)=>show((e1.set ⟨0,4,g4⟩ x4).set ⟨0,7,g7⟩ x7).set ⟨0,8,g8⟩ x8 ⟨0,t,g⟩=e1 ⟨0,t,g⟩by
  rw[iV (bPi hg8.symm) hg,iV (bPi hg7.symm) hg,iV (bPi hg4.symm) hg]
 have fin: ∀{en1:En} {x:Val} {en':En} {cnt':Nat->Nat->Nat},(∀t g,g<cnt 0 t->en1 ⟨0,t,g⟩=en ⟨0,t,g⟩)->uS en1 (aC (aC (aC cnt 0 4 (g4+1)) 0 7 (g7+1)) 0 8 (g8+1)) (dR w j ⟨6,0,[v],left⟩) [] x en' cnt'->
   ∃g5 g9 vU vI,x= .agg [.bl ⟨0,5,g5⟩ 0 (dR w j ⟨6,0,[v],left⟩).objs.length,.bl ⟨0,8,g9⟩ 0 (dR w j ⟨6,0,[v],left⟩).tasks.length,vU,vI,.i (dR w j ⟨6,0,[v],left⟩).used]/\ (vU.one=true/\ vU.cells=[vU])/\ (vI.one=true/\ vI.cells=[vI])/\ en' ⟨0,8,g8⟩=en1 ⟨0,8,g8⟩/\
    ∀Z:Option Ent,uS en cnt (dR w j ⟨6,0,[v],left⟩) [.i 0,.i 0,.i 0,.i 0,.i 0,.i 0] (.agg (.bl ⟨0,5,g5⟩ 0 (dR w j ⟨6,0,[v],left⟩).objs.length:: .bl ⟨0,8,g9⟩ 0 (dR w j ⟨6,0,[v],left⟩).tasks.length::vU::vI:: .i (dR w j ⟨6,0,[v],left⟩).used::[.i 0,.i 0,.i 0,.i 0,.i 0,.i 0])) (en'.set ⟨0,8,g8⟩ Z) cnt':=by
  rintro en1 x en' cnt' h1 ⟨⟨g5,g9,vU,vI,rfl,e5,l5,m5,e9,l9,m9,mU,mI⟩,old,up⟩
  have hlt:g8<aC (aC (aC cnt 0 4 (g4+1)) 0 7 (g7+1)) 0 8 (g8+1) 0 8:=by simp[aC]
  refine⟨g5,g9,vU,vI,rfl,mU.shape,mI.shape,old 8 g8 hlt,fun Z=>⟨⟨g5,g9,vU,vI,rfl,by simp only[go_sem,e5],bOk (up0 5) l5,m5,?_,bOk (up0 8) l9,m9,mU.keep (fun g _=>by simp only[go_sem]) (bN9 _),mI.keep (fun g _=>by simp only[go_sem]) (bN9 _)⟩,fun t g hg=>?_,fun t=>bOk (up0 t) (up t)⟩⟩
  ·rw[aT4 (by omega)];exact e9
  ·rw[iV (bPi hg8.symm) hg,old t g (bOy hg (up0 t)),h1 t g hg]
 have hLz:=at_ Tryz.func178
 conv at hLz=>rhs;reduce
 refine bO hLz rfl rfl ?_
 simp only[go_sem,kK,<-hg4,<-hg7,<-hg8]
 refine aJ ?_
 rcases hL with⟨rfl,rfl,rfl,rfl⟩|⟨gO,gT,rfl,eO,lO,rfl,eT,lT,mU,mI⟩
 ·simp only[go_sem,aBp (f:=Val.int .i64) (size:=1) (k:= .i64) (l:=w.tasks) 0 hf.at_ (fun _=>rfl),hj',hc.one,hc.cells,pE,kO,kA,bOa,if_false]
  refine(key fun t g hg=>oldS hg).mono ?_
  intro x en' cnt' hO;obtain⟨g5,g9,vU,vI,rfl,⟨s1,s2⟩,⟨s3,s4⟩,e8,hO'⟩:=fin (fun t g hg=>oldS hg) hO
  try simp only[go_sem]at e8
  simp only[go_sem,e8];exact hO' _
 ·have hne: ¬gT=g8:=by omega
  simp only[go_sem,eT,hne,hget,hi1,hc.one,hc.cells,kB,bQo,bPc,kA,bOa,if_false]
  refine(key fun t g hg=>oldS hg).mono ?_
  intro x en' cnt' hO;obtain⟨g5,g9,vU',vI',rfl,⟨s1,s2⟩,⟨s3,s4⟩,e8,hO'⟩:=fin (fun t g hg=>oldS hg) hO
  try simp only[go_sem]at e8
  simp only[go_sem,e8];exact hO' _
theorem iX (w:aB)(a:Int)(left:List aA)(v:aE)(hf:Fit w a):PC L 178 [.agg w.cs,.i a,.fz (left.map aA.enc),.agg [.i v.kind,.i v.n]] (.agg [.fz ((bT w a left v).w.objs.map aR.enc),.fz ((bT w a left v).w.tasks.map (.int .i64)),.fz ((bT w a left v).w.outs.map bJ.enc),.fz ((bT w a left v).w.ins.map (.int .i64)),.i (bT w a left v).w.used,.i (bT w a left v).what,.i (bT w a left v).e.task,.i (bT w a left v).e.act,.i (bT w a left v).e.n,.i (bT w a left v).e.v.kind,.i (bT w a left v).e.v.n]):=by
 have hLz:=at_ Tryz.func178
 conv at hLz=>rhs;reduce
 exact aFe hLz rfl rfl rfl ((aQ0 w a left v (rB _) hf (aAd _ _ w)).mono fun v en' cnt' h=>h.snapD (d:=bT w a _ _))
theorem bDb {a b:Val}:cP 2 [.agg [a,b]]=true:=(rfl)
theorem bDc {a b c:Val}:cP 3 [.agg [a,b,c]]=true:=(rfl)
theorem bDd {a b c d:Val}:cP 4 [.agg [a,b,c,d]]=true:=(rfl)
theorem aZd {k:IntKind}{n:Int}:cP 1 [.int k n]=true:=(rfl)
theorem aUd (w:aB)(a:Int)(o:aR)(hf:Fit w a):PC L 126 [.agg w.cs,.i (bQ w a),.agg [.i o.form,.i o.n,.fz (o.vals.map aE.enc),.fz (o.frames.map aA.enc)]] (.agg (dR w (bQ w a) o).cs):=by
 have ha:=hf.at_;simp only[inR,bRt]at ha;exact aJw w (bQ w a) o hf.rng (by omega) hf.len
theorem aBa (w:aB)(a:Int)(left:List aA)(node:Int)(env:List aE)(hf:Fit w a)(hl:left.length<1000000):PC L 130 [.agg w.cs,.i a,.fz (left.map aA.enc),.i node,.fz (env.map aE.enc)] (.agg [.fz ((fT w a left node env).w.objs.map aR.enc),.fz ((fT w a left node env).w.tasks.map (.int .i64)),.fz ((fT w a left node env).w.outs.map bJ.enc),.fz ((fT w a left node env).w.ins.map (.int .i64)),.i (fT w a left node env).w.used,.i (fT w a left node env).what,.i (fT w a left node env).e.task,.i (fT w a left node env).e.act,.i (fT w a left node env).e.n,.i (fT w a left node env).e.v.kind,.i (fT w a left node env).e.v.n]):=by
 have hF:=fL w a 4 hf;have hS:=aUd w a ⟨6,0,[],left++[⟨node,env,[]⟩]⟩ hf;have hl1:left.length<=16777216:=by omega
 have hl2:left.length+1<=16777216:=by omega
 have hLz:=at_ Tryz.func130
 conv at hLz=>rhs;reduce
 refine aH hLz rfl rfl ?_
 by_cases h1:40<=left.length
 ·have d1:decide ((40:Int)<=(left.length:Int))=true:=decide_eq_true (by omega)
  have e:fT w a left node env=bD w a 4:=by unfold fT;rw[if_pos (.inl h1)]
  rw[e];simp only[go_sem,kK,d1,hF.ret]
 ·have d1:decide ((40:Int)<=(left.length:Int))=false:=decide_eq_false (by omega)
  by_cases h2:30<env.length
  ·have d2:decide ((30:Int)<(env.length:Int))=true:=decide_eq_true (by omega)
   have e:fT w a left node env=bD w a 4:=by unfold fT;rw[if_pos (.inr h2)]
   rw[e];simp only[go_sem,kK,d1,d2,hF.ret]
  ·have d2:decide ((30:Int)<(env.length:Int))=false:=decide_eq_false (by omega)
   have e:fT w a left node env=⟨dR w (bQ w a) ⟨6,0,[],left++[⟨node,env,[]⟩]⟩,0,gR⟩:=by unfold fT;rw[if_neg (by omega)]
   rw[e];simp only[bPn,bO4,bOq,aA.enc]at hS;cases h0:left.isEmpty with
   |true=>
    have:left=[]:=by simpa using h0
    subst this;simp only[bOq,bPb]at hS⊢;simp only[go_sem,kK,d2,bS,dU,mL,iN,List.isEmpty_cons,bDc,aNy hf.at_,tQ,mK,bN9,hS.ret,gR,kR]
   |false=>
    simp only[go_sem,kK,d1,d2,bS,dU,iN,tR,gX,h0,hl1,hl2,kP,iQ,bDc,bOc,bOr,bQ9,bN9,bOt,aNy hf.at_,tQ,mK,hS.ret,gR,kR]
theorem lK (d:Did)(a act n:Int)(v:aE):PC L 189 [.agg [.fz (d.w.objs.map aR.enc),.fz (d.w.tasks.map (.int .i64)),.fz (d.w.outs.map bJ.enc),.fz (d.w.ins.map (.int .i64)),.i d.w.used,.i d.what,.i d.e.task,.i d.e.act,.i d.e.n,.i d.e.v.kind,.i d.e.v.n],.i a,.i act,.i n,.agg [.i v.kind,.i v.n]] (.agg [.fz ((cW d a act n v).w.objs.map aR.enc),.fz ((cW d a act n v).w.tasks.map (.int .i64)),.fz ((cW d a act n v).w.outs.map bJ.enc),.fz ((cW d a act n v).w.ins.map (.int .i64)),.i (cW d a act n v).w.used,.i (cW d a act n v).what,.i (cW d a act n v).e.task,.i (cW d a act n v).e.act,.i (cW d a act n v).e.n,.i (cW d a act n v).e.v.kind,.i (cW d a act n v).e.v.n]):=by
 have hM:=aL0 v;have hLz:=at_ Tryz.func189
 conv at hLz=>rhs;reduce
 refine aH hLz rfl rfl ?_
 by_cases h:d.what=1
 ·have e:cW d a act n v=d:=by unfold cW;rw[if_pos h]
  rw[e];have d1:decide (d.what=1)=true:=decide_eq_true h;simp only[go_sem,kK,d1]
 ·have e:cW d a act n v=⟨d.w,1,⟨a,act,n,pW v⟩⟩:=by unfold cW;rw[if_neg h]
  rw[e];have d1:decide (d.what=1)=false:=decide_eq_false h;simp only[go_sem,kK,d1]
  refine aJ ?_
  simp only[go_sem,hM.ret,kA,bOa,if_false]
def tW (w:aB)(v:aE)(form:Int):aR:=if cV w v form=true then w.obj v.n else aY8
theorem oD (w:aB)(v:aE)(form:Int)(hv:v.kind=5->inR v.n 0 ((w.objs.length:Int)-1)=true):PC L 227 [.agg w.cs,.agg [.i v.kind,.i v.n],.i form] (.tup [.agg [.i (tW w v form).form,.i (tW w v form).n,.fz ((tW w v form).vals.map aE.enc),.fz ((tW w v form).frames.map aA.enc)],.bool (cV w v form)]):=by
 have hLz:=at_ Tryz.func227
 conv at hLz=>rhs;reduce
 refine aH hLz rfl rfl ?_
 by_cases h5:v.kind=5
 ·have d1:decide (v.kind=5)=true:=decide_eq_true h5;have hi:=xL (w:=w) (k:= .i64) (en:=fun _=>none) (hv h5)
  by_cases h2:(w.obj v.n).form=form
  ·have d2:decide ((w.obj v.n).form=form)=true:=decide_eq_true h2;have e:cV w v form=true:=by simp only[cV,d1,d2,Bool.and_self]
   rw[tW,if_pos e,e];simp only[go_sem,kK,d1,d2,xL (hv h5)]
  ·have d2:decide ((w.obj v.n).form=form)=false:=decide_eq_false h2;have e:cV w v form=false:=by simp only[cV,d2,bPp]
   rw[tW,if_neg (by rw[e];decide),e]
   simp only[go_sem,kK,d1,d2,xL (hv h5),aY8,bOq]
 ·have d1:decide (v.kind=5)=false:=decide_eq_false h5;have e:cV w v form=false:=by simp only[cV,d1,bOx]
  rw[tW,if_neg (by rw[e];decide),e]
  simp only[go_sem,kK,d1,aY8,bOq]
inductive aFf (w:aB):Nat->Prop
 |task {i:Nat} (h:i<w.objs.length) (t:cN (w.obj i)=true):aFf w i
 |ref {i:Nat} {x:Int} (h:aFf w i) (hx:x∈aJd (w.obj i)):aFf w x.toNat
def atB (out:List Bool)(i:Nat):Bool:=out.getD i false
structure bN1 (w:aB) (out:List Bool):Prop where
 len:out.length=w.objs.length
 sound: ∀i,atB out i=true->aFf w i
 tasks: ∀i,i<w.objs.length->cN (w.obj i)=true->atB out i=true
def bBl (w:aB):Prop:= ∀o∈w.objs,∀x∈aJd o,inR x 0 ((w.objs.length:Int)-1)=true
def aG4 (en:En)(v:Val)(xs:List Val)(D:List Nat):Prop:=
 (v= .cl []/\ xs=[]) \/ ∃t g zs,v= .bl ⟨0,t,g⟩ 0 xs.length/\ en ⟨0,t,g⟩=some (.blk 1 zs false)/\ xs.length<=zs.length/\ zs.take xs.length=xs/\ t∈D
variable {D:List Nat}
theorem aG4.keep (h:aG4 en v xs D)(k: ∀t g,t∈D->en' ⟨0,t,g⟩=en ⟨0,t,g⟩):aG4 en' v xs D:=by
 rcases h with h|⟨t,g,zs,h1,h2,h3,h4,h5⟩
 ·exact .inl h
 ·exact .inr ⟨t,g,zs,h1,by rw[k t g h5];exact h2,h3,h4,h5⟩
theorem aG4.sub {D':List Nat}(h:aG4 en v xs D)(k: ∀t∈D,t∈D'):aG4 en v xs D':=by
 rcases h with h|⟨t,g,zs,h1,h2,h3,h4,h5⟩
 ·exact .inl h
 ·exact .inr ⟨t,g,zs,h1,h2,h3,h4,k t h5⟩
theorem aG4.len (h:aG4 en v xs D):rP v=some xs.length:=by
 rcases h with⟨rfl,rfl⟩|⟨t,g,zs,rfl,_⟩<;>rfl
theorem aG4.shape (h:aG4 en v xs D):v.one=true/\ v.cells=[v]:=by
 rcases h with⟨rfl,_⟩|⟨t,g,zs,rfl,_⟩<;>exact⟨rfl,rfl⟩
section
variable {L :bG}{fr:Nat->Val}{Q:St->Prop}{l:List aM}
end
structure bMh (w:aB) (ks td:List Int):Prop where
 met: ∀x∈ks,∃i:Nat,x=i/\ i<w.objs.length/\ aFf w i
 todo: ∀x∈td,∃i:Nat,x=i/\ i<w.objs.length/\ aFf w i
 tasks: ∀x∈w.tasks,x∈ks \/x∈td
 shut: ∀n∈ks,∀x∈aJd (w.obj n),x∈ks \/x∈td
theorem aG4.nil (h:aG4 en v xs D)(h0:xs.length=0):xs=[]:=List.eq_nil_of_length_eq_zero h0
end Go.Proofs.YtmnchlhngpdffaaGreat
