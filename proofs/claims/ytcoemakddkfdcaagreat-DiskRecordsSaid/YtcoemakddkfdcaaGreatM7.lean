/- Contracts of functions of the program and of the document: part 7. -/
import Derived.Test.YtcoemakddkfdcaaGreatCo
import Derived.Test.YtcoemakddkfdcaaGreatHxD
import Derived.Test.YtcoemakddkfdcaaGreatRows
import Derived.Test.YtcoemakddkfdcaaGreatHxC
import Derived.Carry
set_option linter.all false
namespace Go.Proofs.YtcoemakddkfdcaaGreat
open Go.Abs Go.Proofs
structure DRec where
 seq : Int
 i : Int
 m : Int
 key : Int
 put : Bool
 text : ByteArray
abbrev DRec.cs (r : DRec) : List Val := [.int .i64 r.seq,.int .i64 r.i,.int .i64 r.m,.int .i64 r.key,.bool r.put,.str r.text]
abbrev DRec.enc (r : DRec) : Val := .agg r.cs
def inB (n lo hi : Int) : Bool := decide (lo ≤ n ∧ n ≤ hi)
def textB (put : Bool) (s : ByteArray) : Bool := decide ((s.size : Int) ≤ 12) && (put || (s.toList == []))
def saidB (key : Int) (put : Bool) (s : ByteArray) : Bool := inB key 0 15 && textB put s
def fineB (r : DRec) : Bool := inB r.seq 1 1000000000 && (inB r.m 1 22 && (inB r.i 0 (r.m - 1) && (decide (r.i < r.seq) && saidB r.key r.put r.text)))
theorem disk_in_pc (n lo hi : Int) : PC L F.disk_in [.int .i64 n,.int .i64 lo,.int .i64 hi] (.bool (inB n lo hi)) := by
 refine pc_of LF.disk_in rfl rfl ?_
 simp only [go_sem,qW,C.disk_in]
 refine guard_split (fun h => ?_) (fun h => ?_) <;> simp only [go_sem,qW,h] <;> simp at h <;> simp [h,inB]
 omega
theorem R16_in_pc (n lo hi : Int) : PC L F.R16_in [.int .i64 n,.int .i64 lo,.int .i64 hi] (.bool (inB n lo hi)) := by
 refine pc_of LF.R16_in rfl rfl ?_
 simp only [go_sem,qW,C.R16_in]
 refine guard_split (fun h => ?_) (fun h => ?_) <;> simp only [go_sem,qW,h] <;> simp at h <;> simp [h,inB]
 omega
theorem wrap_m {m : Int} (h : inB m 1 22 = true) : IntKind.i64.wrap (m - 1) = m - 1 := by
 simp only [inB,decide_eq_true_eq] at h
 exact wrap_in (by omega)
theorem disk_said_pc (key : Int) (put : Bool) (s : ByteArray) : PC L F.disk_said [.int .i64 key,.bool put,.str s] (.bool (saidB key put s)) := by
 refine pc_of LF.disk_said rfl rfl ?_
 simp only [go_sem,qW,C.disk_said,(disk_in_pc _ _ _).ret]
 repeat' ((first | with_reducible refine wcond_split (fun h => ?_) (fun h => ?_) | with_reducible refine guard_split (fun h => ?_) (fun h => ?_)) <;> (try simp only [decide_eq_true_eq,decide_eq_false_iff_not,Bool.not_true,Bool.not_false] at h) <;> try simp only [go_sem,qW,h])
 all_goals simp [saidB,textB, *]
theorem R16_text_pc (put : Bool) (s : ByteArray) : PC L F.R16_text [.bool put,.str s] (.bool (textB put s)) := by
 refine pc_of LF.R16_text rfl rfl ?_
 simp only [go_sem,qW,C.R16_text]
 repeat' ((first | with_reducible refine wcond_split (fun h => ?_) (fun h => ?_) | with_reducible refine guard_split (fun h => ?_) (fun h => ?_)) <;> (try simp only [decide_eq_true_eq,decide_eq_false_iff_not,Bool.not_true,Bool.not_false] at h) <;> try simp only [go_sem,qW,h])
 all_goals simp [textB, *]
theorem disk_fine_pc (r : DRec) : PC L F.disk_fine [r.enc] (.bool (fineB r)) := by
 refine pc_of LF.disk_fine rfl rfl ?_
 simp only [go_sem,qW,C.disk_fine,(disk_in_pc _ _ _).ret]
 refine guard_split (fun h1 => ?_) (fun h1 => ?_)
 ·simp only [go_sem,qW,h1,(disk_in_pc _ _ _).ret]
  refine guard_split (fun h2 => ?_) (fun h2 => ?_)
  ·have hw := wrap_m h2
   simp only [go_sem,qW,h2,hw,(disk_in_pc _ _ _).ret]
   repeat' ((first | with_reducible refine wcond_split (fun h => ?_) (fun h => ?_) | with_reducible refine guard_split (fun h => ?_) (fun h => ?_)) <;> (try simp only [decide_eq_true_eq,decide_eq_false_iff_not,Bool.not_true,Bool.not_false] at h) <;> try simp only [go_sem,qW,h,hw,(disk_in_pc _ _ _).ret,(disk_said_pc _ _ _).ret])
   all_goals simp [fineB, *]
  ·simp only [go_sem,qW,h2]
   simp [fineB, *]
 ·simp only [go_sem,qW,h1]
  simp [fineB, *]
theorem R16_Right_pc (r : DRec) : PC L F.R16_Right [r.enc] (.bool (fineB r)) := by
 refine pc_of LF.R16_Right rfl rfl ?_
 simp only [go_sem,qW,C.R16_Right,(R16_in_pc _ _ _).ret]
 refine guard_split (fun h1 => ?_) (fun h1 => ?_)
 ·simp only [go_sem,qW,h1,(R16_in_pc _ _ _).ret]
  refine guard_split (fun h2 => ?_) (fun h2 => ?_)
  ·have hw := wrap_m h2
   simp only [go_sem,qW,h2,hw,(R16_in_pc _ _ _).ret]
   repeat' ((first | with_reducible refine wcond_split (fun h => ?_) (fun h => ?_) | with_reducible refine guard_split (fun h => ?_) (fun h => ?_)) <;> (try simp only [decide_eq_true_eq,decide_eq_false_iff_not,Bool.not_true,Bool.not_false] at h) <;> try simp only [go_sem,qW,h,hw,(R16_in_pc _ _ _).ret,(R16_text_pc _ _).ret])
   all_goals simp [fineB,saidB, *]
  ·simp only [go_sem,qW,h2]
   simp [fineB,saidB, *]
 ·simp only [go_sem,qW,h1]
  simp [fineB,saidB, *]
def b8 (x : Int) : UInt8 := UInt8.ofNat (x % 256).toNat
theorem v8_wrap (x : Int) : Val.int .u8 (IntKind.u8.wrap x) = V8 (b8 x) := by
 have h : IntKind.u8.wrap x = x % 256 := by simp [IntKind.wrap,IntKind.bits,IntKind.signed]
 have h2 : ((b8 x).toNat : Int) = x % 256 := by
  simp only [b8,UInt8.toNat_ofNat']
  omega
 rw [V8,h,h2]
def encB (r : DRec) : List UInt8 := [90,b8 (r.seq / 16777216),b8 (r.seq / 65536),b8 (r.seq / 256),b8 r.seq,b8 r.i,b8 r.m,b8 r.key,(if r.put then 1 else 0),b8 r.text.size] ++ (r.text.data.toList ++ List.replicate (13 - r.text.size) 0) ++ [165]
theorem encB_len (r : DRec) (h : r.text.size ≤ 12) : (encB r).length = 24 := by
 have : r.text.data.toList.length = r.text.size := by rw [Array.length_toList]; rfl
 simp only [encB,List.length_append,List.length_cons,List.length_nil,List.length_replicate,this]
 omega
theorem enc_cells (a b c d e f g n p : UInt8) (P : Int) (hP : V8 p = .int .u8 P) (s : ByteArray) (h : s.size ≤ 12) :
  ((setCells [.int .u8 90,V8 a,V8 b,V8 c,V8 d,V8 e,V8 f,V8 g,.int .u8 P,V8 n,.int .u8 0,.int .u8 0,.int .u8 0,.int .u8 0,.int .u8 0,.int .u8 0,.int .u8 0,.int .u8 0,.int .u8 0,.int .u8 0,.int .u8 0,.int .u8 0,.int .u8 0,.int .u8 0] 10 (strVals s)).set 23 (.int .u8 165)) =
   ([90,a,b,c,d,e,f,g,p,n] ++ (s.data.toList ++ List.replicate (13 - s.size) 0) ++ [165]).map V8 := by
 have hz : [Val.int .u8 0,.int .u8 0,.int .u8 0,.int .u8 0,.int .u8 0,.int .u8 0,.int .u8 0,.int .u8 0,.int .u8 0,.int .u8 0,.int .u8 0,.int .u8 0,.int .u8 0,.int .u8 0] = List.replicate s.size (V8 0) ++ (List.replicate (13 - s.size) (V8 0) ++ [V8 0]) := by
  rw [← List.replicate_succ',List.replicate_append_replicate,show s.size + (13 - s.size + 1) = 14 by omega]; rfl
 have e1 : [Val.int .u8 90,V8 a,V8 b,V8 c,V8 d,V8 e,V8 f,V8 g,.int .u8 P,V8 n,.int .u8 0,.int .u8 0,.int .u8 0,.int .u8 0,.int .u8 0,.int .u8 0,.int .u8 0,.int .u8 0,.int .u8 0,.int .u8 0,.int .u8 0,.int .u8 0,.int .u8 0,.int .u8 0] =
   [90,a,b,c,d,e,f,g,p,n].map V8 ++ List.replicate s.size (V8 0) ++ (List.replicate (13 - s.size) (V8 0) ++ [V8 0]) := by
  rw [List.append_assoc,← hz,List.map_cons,List.map_cons,List.map_cons,List.map_cons,List.map_cons,List.map_cons,List.map_cons,List.map_cons,List.map_cons,List.map_cons,hP]; rfl
 have e2 := setC_app (strVals s) ([90,a,b,c,d,e,f,g,p,n].map V8) (List.replicate s.size (V8 0)) (List.replicate (13 - s.size) (V8 0) ++ [V8 0]) (by rw [strVals_len]; simp)
 simp only [List.length_map,List.length_cons,List.length_nil,Nat.zero_add,Nat.reduceAdd] at e2
 rw [e1,e2,← List.append_assoc]
 have e3 : ([90,a,b,c,d,e,f,g,p,n].map V8 ++ strVals s ++ List.replicate (13 - s.size) (V8 0)).length = 23 := by
  simp only [List.length_append,List.length_map,List.length_cons,List.length_nil,List.length_replicate,strVals_len]; omega
 have e4 := set_last ([90,a,b,c,d,e,f,g,p,n].map V8 ++ strVals s ++ List.replicate (13 - s.size) (V8 0)) (V8 0) (.int .u8 165)
 rw [e3] at e4
 rw [e4,strVals_of]
 simp only [List.map_append,List.map_replicate,List.append_assoc]
 rfl
theorem disk_encode_pc (r : DRec) (h : r.text.size ≤ 12) (hs : 0 ≤ r.seq) : PC L F.disk_encode [r.enc] (.agg ((encB r).map V8)) := by
 refine pc_of LF.disk_encode rfl rfl ?_
 simp only [go_sem,qW,C.disk_encode,List.replicate]
 have h14 : r.text.size ≤ 14 := by omega
 have ht : (strVals r.text).take 14 = strVals r.text := List.take_of_length_le (by rw [strVals_len]; omega)
 have q1 : r.seq.fdiv (2 ^ min 24 64) = r.seq / 16777216 := Int.fdiv_eq_ediv_of_nonneg _ (by decide)
 have q2 : r.seq.fdiv (2 ^ min 16 64) = r.seq / 65536 := Int.fdiv_eq_ediv_of_nonneg _ (by decide)
 have q3 : r.seq.fdiv (2 ^ min 8 64) = r.seq / 256 := Int.fdiv_eq_ediv_of_nonneg _ (by decide)
 have hl := encB_len r h
 have h24 : List.take 24 ((encB r).map V8) = (encB r).map V8 := List.take_of_length_le (by rw [List.length_map,hl]; exact Nat.le_refl _)
 have hz0 : ∀ z : List Val,z.length = 24 → setCells z 0 ((encB r).map V8) = (encB r).map V8 := fun z hz => setC_all z _ (by rw [List.length_map,hl,hz])
 refine wcond_split (fun hp => ?_) (fun hp => ?_)
 ·have hc := enc_cells (b8 (r.seq / 16777216)) (b8 (r.seq / 65536)) (b8 (r.seq / 256)) (b8 r.seq) (b8 r.i) (b8 r.m) (b8 r.key) (b8 r.text.size) 1 1 rfl r.text h
  rw [show ([90,b8 (r.seq / 16777216),b8 (r.seq / 65536),b8 (r.seq / 256),b8 r.seq,b8 r.i,b8 r.m,b8 r.key,1,b8 r.text.size] ++ (r.text.data.toList ++ List.replicate (13 - r.text.size) 0) ++ [165]) = encB r by simp [encB,hp]] at hc
  simp only [go_sem,qW,hp,iaaP_ptr,Int.cast_ofNat_Int,opCopy,srcOf,isStr,strVals_len,h14,ht,setC_len,List.length_set,or_true,if_true,q1,q2,q3,v8_wrap,hc,h24,List.length_map,hl,snapM_V8,fst_pairs,snd_pairs,wk_V8,hz0]
 ·have hc := enc_cells (b8 (r.seq / 16777216)) (b8 (r.seq / 65536)) (b8 (r.seq / 256)) (b8 r.seq) (b8 r.i) (b8 r.m) (b8 r.key) (b8 r.text.size) 0 0 rfl r.text h
  rw [show ([90,b8 (r.seq / 16777216),b8 (r.seq / 65536),b8 (r.seq / 256),b8 r.seq,b8 r.i,b8 r.m,b8 r.key,0,b8 r.text.size] ++ (r.text.data.toList ++ List.replicate (13 - r.text.size) 0) ++ [165]) = encB r by simp [encB,hp]] at hc
  simp only [go_sem,qW,hp,iaaP_ptr,Int.cast_ofNat_Int,opCopy,srcOf,isStr,strVals_len,h14,ht,setC_len,List.length_set,or_true,if_true,q1,q2,q3,v8_wrap,hc,h24,List.length_map,hl,snapM_V8,fst_pairs,snd_pairs,wk_V8,hz0]
theorem disk_slot_pc (s : ByteArray) (h : s.size = 24) : PC L F.disk_slot [.str s] (.agg (s.data.toList.map V8)) := by
 refine pc_of LF.disk_slot rfl rfl ?_
 have hl : s.data.toList.length = 24 := by rw [Array.length_toList]; exact h
 have hz0 : ∀ z : List Val,z.length = 24 → setCells z 0 (s.data.toList.map V8) = s.data.toList.map V8 := fun z hz => setC_all z _ (by rw [List.length_map,hl,hz])
 have h24 : List.take 24 (s.data.toList.map V8) = s.data.toList.map V8 := List.take_of_length_le (by rw [List.length_map,hl]; exact Nat.le_refl _)
 simp only [go_sem,qW,C.disk_slot,List.replicate,opCopy,srcOf,isStr,strVals_of,List.length_map,hl,Nat.le_refl,or_true,if_true,h24,hz0,snapM_V8,fst_pairs,snd_pairs,wk_V8]
def okBytes (r : DRec) : Val := if fineB r then .tup [.str ⟨(encB r).toArray⟩,.int .i64 0] else .tup [.str ⟨#[]⟩,.int .i64 2]
theorem fine_size {r : DRec} (h : fineB r = true) : r.text.size ≤ 12 ∧ 0 ≤ r.seq := by
 simp only [fineB,saidB,textB,inB,Bool.and_eq_true,decide_eq_true_eq] at h
 omega
theorem disk_Bytes_pc (r : DRec) : PC L F.disk_Bytes [r.enc] (okBytes r) := by
 refine pc_of LF.disk_Bytes rfl rfl ?_
 simp only [go_sem,qW,C.disk_Bytes,(disk_fine_pc r).ret]
 refine wcond_split (fun hp => ?_) (fun hp => ?_)
 ·have hf : fineB r = false := by simpa using hp
  try simp only [go_sem,qW,hp]
  rw [okBytes,hf]; rfl
 ·have hf : fineB r = true := by simpa using hp
  obtain ⟨h1,h2⟩ := fine_size hf
  have hl := encB_len r h1
  have hz0 : ∀ z : List Val,z.length = 24 → setCells z 0 ((encB r).map V8) = (encB r).map V8 := fun z hz => setC_all z _ (by rw [List.length_map,hl,hz])
  have h24 : List.take 24 ((encB r).map V8) = (encB r).map V8 := List.take_of_length_le (by rw [List.length_map,hl]; exact Nat.le_refl _)
  simp only [go_sem,qW,hp,(disk_encode_pc r h1 h2).ret,List.replicate,opB2s,srcOf,isStr,List.length_map,hl,hz0,h24,flat_bytes,bytesOf_map,Nat.le_refl,and_self,if_true]
  rw [okBytes,hf]; rfl
def seq4 (b : List UInt8) : Int := 256 * (256 * (256 * ((b.getD 1 0).toNat : Int) + (b.getD 2 0).toNat) + (b.getD 3 0).toNat) + (b.getD 4 0).toNat
def recOf (b : List UInt8) : DRec := ⟨seq4 b,(b.getD 5 0).toNat,(b.getD 6 0).toNat,(b.getD 7 0).toNat,b.getD 8 0 == 1,⟨((b.drop 10).take (b.getD 9 0).toNat).toArray⟩⟩
def isRec (b : List UInt8) : Bool := decide ((b.getD 9 0).toNat ≤ 12) && (fineB (recOf b) && (encB (recOf b) == b))
def noRec : DRec := ⟨0,0,0,0,false,⟨#[]⟩⟩
def recV (b : List UInt8) : Val := if isRec b then (recOf b).enc else noRec.enc
theorem read_b {b : List UInt8} {j : Nat} (h : j < b.length) : ((b.map V8).drop j).take 1 = [V8 (b.getD j 0)] := by
 rw [List.drop_eq_getElem_cons (by simpa using h)]
 simp [List.getD_eq_getElem?_getD,h]
theorem binV {op : BinOp} {b : UInt8} {y : Val} : binVal op .num (V8 b) y = binVal op .num (.int .u8 b.toNat) y := rfl
theorem b_lt (b : UInt8) : b.toNat < 256 := b.toNat_lt
theorem wrap_V8 {b : UInt8} : opWrap .i64 (V8 b) = some { v := .int .i64 b.toNat } := by
 have := b_lt b
 show some ({ v := .int .i64 (IntKind.i64.wrap (b.toNat : Int)) } : Res) = _
 rw [wrap_in (by omega)]
theorem shl_at {b : UInt8} {n : Int} {k : Nat} (h : k ≤ 24) (hn : n = (k : Int)) : binVal .shl .num (.int .i64 b.toNat) (.int .u64 n) = some (.int .i64 ((b.toNat * 2 ^ k : Nat) : Int)) := by
 subst hn
 have := b_lt b
 have h2 : b.toNat * 2 ^ k ≤ 255 * 2 ^ 24 := Nat.mul_le_mul (by omega) (Nat.pow_le_pow_right (by omega) h)
 rw [bin_shl,if_neg (by omega)]
 have e : (min (Int.toNat (k : Int)) IntKind.i64.bits) = k := by simp [IntKind.bits]; omega
 rw [e,show ((b.toNat : Int) * 2 ^ k) = ((b.toNat * 2 ^ k : Nat) : Int) by push_cast; rfl,wrap_in (by omega)]
theorem or_at {x z : Nat} (i : Nat) (hx : x % 2 ^ i = 0) (hz : z < 2 ^ i) (hs : x + z < 2 ^ 62) : binVal .or .num (.int .i64 (x : Int)) (.int .i64 (z : Int)) = some (.int .i64 ((x + z : Nat) : Int)) := by
 rw [bin_or]
 have e : (BitVec.ofInt IntKind.i64.bits (x : Int) ||| BitVec.ofInt IntKind.i64.bits (z : Int)).toNat = x + z := by
  rw [BitVec.toNat_or,BitVec.ofInt_natCast,BitVec.ofInt_natCast,BitVec.toNat_ofNat,BitVec.toNat_ofNat]
  have e1 : x % 2 ^ IntKind.i64.bits = x := Nat.mod_eq_of_lt (by simp [IntKind.bits]; omega)
  have e2 : z % 2 ^ IntKind.i64.bits = z := Nat.mod_eq_of_lt (by simp [IntKind.bits]; omega)
  rw [e1,e2]
  obtain ⟨y,rfl⟩ := Nat.dvd_of_mod_eq_zero hx
  exact (Nat.two_pow_add_eq_or_of_lt hz y).symm
 rw [e,wrap_in (by omega)]
theorem sla_n {k : Key} {o n : Nat} (h : n ≤ 12) : opSla 24 1 false (.ptr k o) (some (.int .i64 10)) (some (.int .i64 (IntKind.i64.wrap (10 + (n : Int))))) = some { v := .sl k (o + 10) n } := by
 rw [wrap_in (by omega)]
 have e : bound (some (.int .i64 (10 + (n : Int)))) 24 24 = some (10 + n) := by
  simp only [bound]
  rw [if_pos (by omega)]
  congr 1
 have e2 : bound (some (.int .i64 10)) 0 (10 + n) = some 10 := by
  simp only [bound]
  rw [if_pos (by omega)]
  rfl
 rw [sla_ptr e e2 (by omega)]
 simp
theorem neq_arr {x y : List UInt8} (hx : x.length = 24) (hy : y.length = 24) : binVal .neq (.agg [.num,.num,.num,.num,.num,.num,.num,.num,.num,.num,.num,.num,.num,.num,.num,.num,.num,.num,.num,.num,.num,.num,.num,.num]) (.agg (x.map V8)) (.agg (y.map V8)) = some (.bool (!(x == y))) := by
 have e := eq_bytes x y (by omega)
 rw [hx] at e
 show (eqVal (.agg (List.replicate 24 .num)) (.agg (x.map V8)) (.agg (y.map V8))).map (fun b => Val.bool !b) = _
 simp only [eqVal,List.length_map,List.length_replicate,hx,hy,and_self,if_true,e,Option.map_some]
theorem recOf_eq (b : List UInt8) : recOf b = ⟨(((b.getD 1 0).toNat * 16777216 + (b.getD 2 0).toNat * 65536 + (b.getD 3 0).toNat * 256 + (b.getD 4 0).toNat : Nat) : Int),(b.getD 5 0).toNat,(b.getD 6 0).toNat,(b.getD 7 0).toNat,decide (((b.getD 8 0).toNat : Int) = 1),⟨((b.drop 10).take (b.getD 9 0).toNat).toArray⟩⟩ := by
 have e1 : seq4 b = (((b.getD 1 0).toNat * 16777216 + (b.getD 2 0).toNat * 65536 + (b.getD 3 0).toNat * 256 + (b.getD 4 0).toNat : Nat) : Int) := by
  unfold seq4; omega
 have e2 : (b.getD 8 0 == 1) = decide (((b.getD 8 0).toNat : Int) = 1) := by
  rw [Bool.eq_iff_iff,beq_iff_eq,decide_eq_true_eq]
  constructor
  ·intro h; rw [h]; rfl
  ·intro h; exact UInt8.toNat_inj.1 (by simpa using (by exact_mod_cast h : (b.getD 8 0).toNat = 1))
 rw [recOf,e1,e2]
theorem disk_decode_pc (b : List UInt8) (h : b.length = 24) : PC L F.disk_decode [.agg (b.map V8)] (.tup [recV b,.bool (isRec b)]) := by
 refine pc_of LF.disk_decode rfl rfl ?_
 have hr : ∀ j,j < 24 → ((b.map V8).drop j).take 1 = [V8 (b.getD j 0)] := fun j hj => read_b (by omega)
 have l1 := b_lt (b.getD 1 0)
 have l2 := b_lt (b.getD 2 0)
 have l3 := b_lt (b.getD 3 0)
 have l4 := b_lt (b.getD 4 0)
 have s1 : binVal .shl .num (.int .i64 ((b.getD 1 0).toNat : Int)) (.int .u64 24) = some (.int .i64 (((b.getD 1 0).toNat * 16777216 : Nat) : Int)) := shl_at (k := 24) (by omega) rfl
 have s2 : binVal .shl .num (.int .i64 ((b.getD 2 0).toNat : Int)) (.int .u64 16) = some (.int .i64 (((b.getD 2 0).toNat * 65536 : Nat) : Int)) := shl_at (k := 16) (by omega) rfl
 have s3 : binVal .shl .num (.int .i64 ((b.getD 3 0).toNat : Int)) (.int .u64 8) = some (.int .i64 (((b.getD 3 0).toNat * 256 : Nat) : Int)) := shl_at (k := 8) (by omega) rfl
 have o1 := or_at (x := (b.getD 1 0).toNat * 16777216) (z := (b.getD 2 0).toNat * 65536) 24 (by omega) (by omega) (by omega)
 have o2 := or_at (x := (b.getD 1 0).toNat * 16777216 + (b.getD 2 0).toNat * 65536) (z := (b.getD 3 0).toNat * 256) 16 (by omega) (by omega) (by omega)
 have o3 := or_at (x := (b.getD 1 0).toNat * 16777216 + (b.getD 2 0).toNat * 65536 + (b.getD 3 0).toNat * 256) (z := (b.getD 4 0).toNat) 8 (by omega) (by omega) (by omega)
 simp only [go_sem,qW,C.disk_decode,iaaP_ptr,Int.cast_ofNat_Int,List.length_map,h,hr,wrap_V8,binV,s1,s2,s3,o1,o2,o3]
 have hne : noRec.enc = .agg [.int .i64 0,.int .i64 0,.int .i64 0,.int .i64 0,.bool false,.str ⟨#[]⟩] := rfl
 refine wcond_split (fun hp => ?_) (fun hp => ?_)
 ·have hi : isRec b = false := by
   have : ¬ (b.getD 9 0).toNat ≤ 12 := by simp only [decide_eq_true_eq] at hp; omega
   rw [isRec,decide_eq_false this]; rfl
  rw [recV,hi,← hne]; rfl
 ·have h9 : (b.getD 9 0).toNat ≤ 12 := by simp only [decide_eq_false_iff_not] at hp; omega
  have hle : 10 + (b.getD 9 0).toNat ≤ 24 := by omega
  have hd : ((b.map V8).drop 10).take (b.getD 9 0).toNat = ((b.drop 10).take (b.getD 9 0).toNat).map V8 := by rw [← List.map_drop,← List.map_take]
  simp only [go_sem,qW,sla_n h9,opB2s,srcOf,isStr,List.length_map,h,hle,hd,flat_bytes,bytesOf_map,and_self,if_true]
  have hq := recOf_eq b
  generalize hr0 : (DRec.mk (((b.getD 1 0).toNat * 16777216 + (b.getD 2 0).toNat * 65536 + (b.getD 3 0).toNat * 256 + (b.getD 4 0).toNat : Nat) : Int) (b.getD 5 0).toNat (b.getD 6 0).toNat (b.getD 7 0).toNat (decide (((b.getD 8 0).toNat : Int) = 1)) ⟨((b.drop 10).take (b.getD 9 0).toNat).toArray⟩) = r at hq
  have hrc : r.cs = [.int .i64 (((b.getD 1 0).toNat * 16777216 + (b.getD 2 0).toNat * 65536 + (b.getD 3 0).toNat * 256 + (b.getD 4 0).toNat : Nat) : Int),.int .i64 (b.getD 5 0).toNat,.int .i64 (b.getD 6 0).toNat,.int .i64 (b.getD 7 0).toNat,.bool (decide (((b.getD 8 0).toNat : Int) = 1)),.str ⟨((b.drop 10).take (b.getD 9 0).toNat).toArray⟩] := by rw [← hr0]
  refine wp_still (by decide) ?_
  have hf := disk_fine_pc r
  rw [DRec.enc,hrc] at hf
  simp only [go_sem,qW,hf.ret]
  refine guard_split (fun h1 => ?_) (fun h1 => ?_)
  ·have hfi : fineB r = true := by simpa using h1
   obtain ⟨z1,z2⟩ := fine_size hfi
   have he := disk_encode_pc r z1 z2
   rw [DRec.enc,hrc] at he
   have h24 : List.take 24 (b.map V8) = b.map V8 := List.take_of_length_le (by rw [List.length_map,h]; exact Nat.le_refl _)
   have hn := neq_arr (encB_len r z1) h
   simp only [go_sem,qW,h1,he.ret,List.length_map,h,h24,hn]
   have hi : isRec b = (encB r == b) := by rw [isRec,hq,decide_eq_true h9,hfi]; rfl
   refine wcond_split (fun h2 => ?_) (fun h2 => ?_)
   ·have h3 : (encB r == b) = false := by simpa using h2
    rw [recV,hi,h3]; rfl
   ·have h3 : (encB r == b) = true := by simpa using h2
    rw [recV,hi,h3,if_pos rfl,hq,DRec.enc,hrc]
  ·have hfi : fineB r = false := by simpa using h1
   have hi : isRec b = false := by rw [isRec,hq,hfi,Bool.false_and,Bool.and_false]
   try simp only [go_sem,qW,h1]
   rw [recV,hi]; rfl
theorem eq_arr0 {x : List UInt8} (hx : x.length = 24) : binVal .eql (.agg [.num,.num,.num,.num,.num,.num,.num,.num,.num,.num,.num,.num,.num,.num,.num,.num,.num,.num,.num,.num,.num,.num,.num,.num]) (.agg (x.map V8))
  (.agg [.int .u8 0,.int .u8 0,.int .u8 0,.int .u8 0,.int .u8 0,.int .u8 0,.int .u8 0,.int .u8 0,.int .u8 0,.int .u8 0,.int .u8 0,.int .u8 0,.int .u8 0,.int .u8 0,.int .u8 0,.int .u8 0,.int .u8 0,.int .u8 0,.int .u8 0,.int .u8 0,.int .u8 0,.int .u8 0,.int .u8 0,.int .u8 0]) = some (.bool (x == List.replicate 24 0)) := by
 have e := eq_bytes x (List.replicate 24 0) (by rw [hx]; rfl)
 rw [hx] at e
 show (eqVal (.agg (List.replicate 24 .num)) (.agg (x.map V8)) (.agg ((List.replicate 24 0).map V8))).map Val.bool = _
 simp only [eqVal,List.length_map,List.length_replicate,hx,and_self,if_true,e,Option.map_some]
theorem wk0_V8 (l : List UInt8) : (l.map V8).map Val.wk0 = l.map V8 := by rw [List.map_map]; rfl
def recR (s : ByteArray) : Val :=
 if s.size = 24 then (if (s.data.toList == List.replicate 24 0) = true then .tup [noRec.enc,.int .i64 5] else if isRec s.data.toList = true then .tup [(recOf s.data.toList).enc,.int .i64 0] else .tup [noRec.enc,.int .i64 4])
 else .tup [noRec.enc,.int .i64 2]
theorem disk_Record_pc (s : ByteArray) : PC L F.disk_Record [.str s] (recR s) := by
 refine pc_of LF.disk_Record rfl rfl ?_
 simp only [go_sem,qW,C.disk_Record,List.replicate]
 refine wcond_split (fun hp => ?_) (fun hp => ?_)
 ·have h : ¬ s.size = 24 := by
   intro h; simp [h] at hp
  try simp only [go_sem,qW,hp]
  rw [recR,if_neg h]; rfl
 ·have h : s.size = 24 := by
   simp only [Bool.not_eq_false',decide_eq_true_eq] at hp; omega
  have hl : s.data.toList.length = 24 := by rw [Array.length_toList]; exact h
  simp only [go_sem,qW,(disk_slot_pc s h).ret,eq_arr0 hl]
  refine wcond_split (fun h1 => ?_) (fun h1 => ?_)
  ·try simp only [go_sem,qW,h1]
   rw [recR,if_pos h,if_pos h1]; rfl
  ·have h1' : ¬ (s.data.toList == List.replicate 24 0) = true := by rw [h1]; decide
   have hd := disk_decode_pc _ hl
   cases hi : isRec s.data.toList with
   | true =>
    rw [recV,hi,if_pos rfl] at hd
    simp only [go_sem,qW,h1,hd.ret,(disk_slot_pc s h).ret,snapM_V8,fst_pairs,snd_pairs,wk0_V8,Bool.not_true]
    rw [recR,if_pos h,if_neg h1',hi]; rfl
   | false =>
    rw [recV,hi,if_neg (by decide)] at hd
    simp only [go_sem,qW,h1,hd.ret,(disk_slot_pc s h).ret,snapM_V8,fst_pairs,snd_pairs,wk0_V8,Bool.not_false]
    rw [recR,if_pos h,if_neg h1',hi]; rfl
theorem size_l (l : List UInt8) : (⟨l.toArray⟩ : ByteArray).size = l.length := by simp [ByteArray.size]
theorem app_l (a b : List UInt8) : (⟨a.toArray⟩ : ByteArray) ++ ⟨b.toArray⟩ = ⟨(a ++ b).toArray⟩ := by
 apply ByteArray.ext
 rw [ByteArray.data_append]
 simp
theorem adds_l {a b : List UInt8} (h : a.length + b.length ≤ 100000) : binVal .add .str (.str ⟨a.toArray⟩) (.str ⟨b.toArray⟩) = some (.str ⟨(a ++ b).toArray⟩) := by
 have e : IntKind.i64.max = 9223372036854775807 := by decide
 rw [bin_adds,size_l,size_l,if_neg (by rw [e]; omega),app_l]
theorem flat0_i {k : IntKind} {n : Int} : (Val.int k n).flat0 = true := rfl
theorem flat0_V8 {b : UInt8} : (V8 b).flat0 = true := rfl
theorem one0 : bytesOf [.int .u8 0] = some ⟨[(0 : UInt8)].toArray⟩ := bytesOf_map [0]
theorem R16_zeros_pc (n : Nat) (hn : n ≤ 1000) : PC L F.R16_zeros [.int .i64 n] (.str ⟨(List.replicate n (0 : UInt8)).toArray⟩) := by
 refine pc_of LF.R16_zeros rfl rfl ?_
 have hfew : Few n := by unfold Few; omega
 simp only [go_sem,qW,C.R16_zeros]
 refine wp_for (n) (fun k st => ∃ fr en cnt,st = ⟨fr,en,cnt⟩ ∧ (fr 0 = .int .i64 n) ∧ (fr 3 = .str ⟨(List.replicate k (0 : UInt8)).toArray⟩) ∧ (fr 4 = .int .i64 k)) 0 (Nat.zero_le _) ⟨_,_,_,rfl,(by first | (simp only [go_sem,qW]; (try rfl); done) | rfl | (simp; done)),(by first | (simp only [go_sem,qW]; (try rfl); done) | rfl | (simp; done)),(by first | (simp only [go_sem,qW]; (try rfl); done) | rfl | (simp; done))⟩ ?_
 rintro k st hk ⟨fr,en,cnt,rfl,h0,h3,h4⟩
 simp only [go_sem,qW,h0,h3,h4]
 refine wcond_split (fun h => ?_) (fun h => ?_)
 ·have h' : k < n := by simpa using h
  have ha := adds_l (a := List.replicate k 0) (b := [0]) (by simp; omega)
  rw [← List.replicate_succ'] at ha
  simp only [go_sem,qW,h',h0,h3,h4,opB2s,srcOf,elemsOf,isStr,one0,ha,flat0_i]
  refine ⟨_,_,_,rfl,?_⟩
  simp only [go_sem,qW,h0,h3,h4,wrap_succ h' hfew]
 ·have : k = n := by simp at h; omega
  subst this
  try simp only [go_sem,qW,h0,h3,h4]
theorem fine_all {r : DRec} (h : fineB r = true) : 1 ≤ r.seq ∧ r.seq ≤ 1000000000 ∧ 0 ≤ r.i ∧ r.i ≤ 21 ∧ 1 ≤ r.m ∧ r.m ≤ 22 ∧ 0 ≤ r.key ∧ r.key ≤ 15 ∧ r.text.size ≤ 12 := by
 simp only [fineB,saidB,textB,inB,Bool.and_eq_true,decide_eq_true_eq] at h
 omega
theorem quo_at {a b : Int} (ha : 0 ≤ a) (h2 : a ≤ 1000000000) (hb : 0 < b) : IntKind.i64.wrap (a.tdiv b) = a / b := by
 rw [Int.tdiv_eq_ediv_of_nonneg ha,wrap_in]
 have h0 := Int.ediv_nonneg ha (by omega : 0 ≤ b)
 have h1 : a / b ≤ a := Int.ediv_le_self b ha
 omega
theorem rem_at {a b : Int} (ha : 0 ≤ a) : a.tmod b = a % b := Int.tmod_eq_emod_of_nonneg ha
theorem b8_mod (x : Int) : b8 (x % 256) = b8 x := by unfold b8; rw [Int.emod_emod_of_dvd]; exact Int.dvd_refl _
theorem ten_l (a b c d e f g p n : UInt8) : bytesOf [.int .u8 90,V8 a,V8 b,V8 c,V8 d,V8 e,V8 f,V8 g,V8 p,V8 n] = some ⟨[90,a,b,c,d,e,f,g,p,n].toArray⟩ := bytesOf_map [90,a,b,c,d,e,f,g,p,n]
theorem last_l : bytesOf [.int .u8 165] = some ⟨[(165 : UInt8)].toArray⟩ := bytesOf_map [165]
theorem R16_write_pc (r : DRec) (h : fineB r = true) : PC L F.R16_write [r.enc] (.str ⟨(encB r).toArray⟩) := by
 obtain ⟨h1,h2,h3,h4,h5,h6,h7,h8,h9⟩ := fine_all h
 have q1 := quo_at (a := r.seq) (b := 16777216) (by omega) h2 (by omega)
 have q2 := quo_at (a := r.seq) (b := 65536) (by omega) h2 (by omega)
 have q3 := quo_at (a := r.seq) (b := 256) (by omega) h2 (by omega)
 have m2 := rem_at (a := r.seq / 65536) (b := 256) (Int.ediv_nonneg (by omega) (by omega))
 have m3 := rem_at (a := r.seq / 256) (b := 256) (Int.ediv_nonneg (by omega) (by omega))
 have m4 := rem_at (a := r.seq) (b := 256) (by omega)
 obtain ⟨tx,htx⟩ : ∃ tx : List UInt8,r.text = ⟨tx.toArray⟩ := ⟨r.text.data.toList,by simp⟩
 have hlen : r.text.size = tx.length := by rw [htx,size_l]
 have a1 := adds_l (a := [90,b8 (r.seq / 16777216),b8 (r.seq / 65536),b8 (r.seq / 256),b8 r.seq,b8 r.i,b8 r.m,b8 r.key,(if r.put then 1 else 0),b8 tx.length]) (b := tx) (by simp; omega)
 obtain ⟨head,hhead⟩ : ∃ head,head = [90,b8 (r.seq / 16777216),b8 (r.seq / 65536),b8 (r.seq / 256),b8 r.seq,b8 r.i,b8 r.m,b8 r.key,(if r.put then 1 else 0),b8 tx.length] := ⟨_,rfl⟩
 have hh : head.length = 10 := by rw [hhead]; rfl
 rw [← hhead] at a1
 have a2 := adds_l (a := head ++ tx) (b := List.replicate (13 - tx.length) 0) (by simp; omega)
 have a3 := adds_l (a := head ++ tx ++ List.replicate (13 - tx.length) 0) (b := [165]) (by simp; omega)
 have hz := R16_zeros_pc (13 - tx.length) (by omega)
 have hw : IntKind.i64.wrap (23 - ((10 + tx.length : Nat) : Int)) = ((13 - tx.length : Nat) : Int) := by rw [wrap_in (by omega)]; omega
 have hb1 : b8 1 = 1 := by decide +kernel
 have hb0 : b8 0 = 0 := by decide +kernel
 have hfin : encB r = head ++ tx ++ List.replicate (13 - tx.length) 0 ++ [165] := by
  rw [encB,hhead,hlen]
  have : r.text.data.toList = tx := by rw [htx]
  rw [this]; simp only [List.append_assoc]
 refine pc_of LF.R16_write rfl rfl ?_
 simp only [go_sem,qW,C.R16_write]
 refine wcond_split (fun hp => ?_) (fun hp => ?_)
 ·rw [hp,if_pos rfl] at hhead
  have hten := ten_l (b8 (r.seq / 16777216)) (b8 (r.seq / 65536)) (b8 (r.seq / 256)) (b8 r.seq) (b8 r.i) (b8 r.m) (b8 r.key) 1 (b8 tx.length)
  rw [← hhead] at hten
  simp only [go_sem,qW,hp,q1,q2,q3,m2,m3,m4,v8_wrap,b8_mod,hb1,List.replicate,opB2s,srcOf,elemsOf,isStr,flat0_i,flat0_V8,hten,htx,size_l,List.size_toArray,a1]
  refine wp_still (by decide) ?_
  simp only [go_sem,qW,size_l,List.size_toArray,List.length_append,hh,hw,hz.ret,a2,opB2s,srcOf,elemsOf,isStr,flat0_i,last_l,a3,List.replicate]
  rw [hfin]
 ·have hp' : ¬ r.put = true := by rw [hp]; decide
  rw [if_neg hp'] at hhead
  have hten := ten_l (b8 (r.seq / 16777216)) (b8 (r.seq / 65536)) (b8 (r.seq / 256)) (b8 r.seq) (b8 r.i) (b8 r.m) (b8 r.key) 0 (b8 tx.length)
  rw [← hhead] at hten
  simp only [go_sem,qW,hp,q1,q2,q3,m2,m3,m4,v8_wrap,b8_mod,hb0,List.replicate,opB2s,srcOf,elemsOf,isStr,flat0_i,flat0_V8,hten,htx,size_l,List.size_toArray,a1]
  refine wp_still (by decide) ?_
  simp only [go_sem,qW,size_l,List.size_toArray,List.length_append,hh,hw,hz.ret,a2,opB2s,srcOf,elemsOf,isStr,flat0_i,last_l,a3,List.replicate]
  rw [hfin]
theorem R16_Bytes_pc (r : DRec) : PC L F.R16_Bytes [r.enc] (okBytes r) := by
 refine pc_of LF.R16_Bytes rfl rfl ?_
 simp only [go_sem,qW,C.R16_Bytes,(R16_Right_pc r).ret]
 refine wcond_split (fun hp => ?_) (fun hp => ?_)
 ·have hf : fineB r = false := by simpa using hp
  try simp only [go_sem,qW,hp]
  rw [okBytes,hf]; rfl
 ·have hf : fineB r = true := by simpa using hp
  simp only [go_sem,qW,hp,(R16_write_pc r hf).ret]
  rw [okBytes,hf]; rfl
def seqP (b : List UInt8) : Nat → Int
 | 0 => 0
 | 1 => 0
 | n + 2 => 256 * seqP b (n + 1) + (b.getD (n + 1) 0).toNat
theorem seqP_lt (b : List UInt8) : ∀ k,k ≤ 4 → 0 ≤ seqP b k ∧ seqP b k < 16777216
 | 0,_ => by simp [seqP]
 | 1,_ => by simp [seqP]
 | 2,_ => by have := b_lt (b.getD 1 0); simp only [seqP,Nat.zero_add,Nat.reduceAdd]; omega
 | 3,_ => by have := b_lt (b.getD 1 0); have := b_lt (b.getD 2 0); simp only [seqP,Nat.zero_add,Nat.reduceAdd]; omega
 | 4,_ => by have := b_lt (b.getD 1 0); have := b_lt (b.getD 2 0); have := b_lt (b.getD 3 0); simp only [seqP,Nat.zero_add,Nat.reduceAdd]; omega
theorem seqP_5 (b : List UInt8) : seqP b 5 = seq4 b := by simp only [seqP,seq4,Nat.zero_add,Nat.reduceAdd]; omega
theorem ixs_at {s : ByteArray} (h : s.size = 24) {k : IntKind} (j : Nat) (hj : j < 24) : opIxs (.str s) (.int k (j : Int)) = some { v := V8 (s.data.toList.getD j 0) } := by
 have hl : j < s.data.toList.length := by rw [Array.length_toList]; show j < s.size; omega
 rw [ixs_nat hl,V8,List.getD_eq_getElem?_getD,List.getElem?_eq_getElem hl]
 rfl
theorem ext_l {s : ByteArray} (n : Nat) : s.extract 10 (10 + n) = ⟨((s.data.toList.drop 10).take n).toArray⟩ := by
 apply ByteArray.ext
 rw [ByteArray.data_extract]
 apply Array.toList_inj.1
 rw [Array.toList_extract]
 simp [List.extract]
theorem slice_l {en : En} {s : ByteArray} {n : Nat} (h : 10 + n ≤ s.size) : opSlice true 1 en (.str s) (some (.int .i64 10)) (some (.int .i64 ((10 + n : Nat) : Int))) none = some { v := .str (s.extract 10 (10 + n)) } := by
 have e : bound (some (.int .i64 ((10 + n : Nat) : Int))) s.size s.size = some (10 + n) := by
  simp only [bound]
  rw [if_pos (by omega)]
  congr 1
 have e2 : bound (some (.int .i64 10)) 0 (10 + n) = some 10 := by
  simp only [bound]
  rw [if_pos (by omega)]
  rfl
 simp only [opSlice,e,e2,if_true,Option.map_some]
theorem R16_read_pc (s : ByteArray) (h : s.size = 24) : PC L F.R16_read [.str s] (.tup [if decide ((s.data.toList.getD 9 0).toNat ≤ 12) then (recOf s.data.toList).enc else noRec.enc,.bool (isRec s.data.toList)]) := by
 have hl : s.data.toList.length = 24 := by rw [Array.length_toList]; exact h
 have x9 : opIxs (.str s) (.int .i64 9) = some { v := V8 (s.data.toList.getD 9 0) } := ixs_at h 9 (by omega)
 have x5 : opIxs (.str s) (.int .i64 5) = some { v := V8 (s.data.toList.getD 5 0) } := ixs_at h 5 (by omega)
 have x6 : opIxs (.str s) (.int .i64 6) = some { v := V8 (s.data.toList.getD 6 0) } := ixs_at h 6 (by omega)
 have x7 : opIxs (.str s) (.int .i64 7) = some { v := V8 (s.data.toList.getD 7 0) } := ixs_at h 7 (by omega)
 have x8 : opIxs (.str s) (.int .i64 8) = some { v := V8 (s.data.toList.getD 8 0) } := ixs_at h 8 (by omega)
 have hfew : Few 5 := by unfold Few; omega
 obtain ⟨b,hb⟩ : ∃ b,b = s.data.toList := ⟨_,rfl⟩
 rw [← hb] at x9 x5 x6 x7 x8 hl ⊢
 refine pc_of LF.R16_read rfl rfl ?_
 simp only [go_sem,qW,C.R16_read,x9,wrap_V8]
 refine wcond_split (fun hp => ?_) (fun hp => ?_)
 ·have h9 : ¬ (b.getD 9 0).toNat ≤ 12 := by simp only [decide_eq_true_eq] at hp; omega
  have hi : isRec b = false := by rw [isRec,decide_eq_false h9]; rfl
  try simp only [go_sem,qW,hp]
  rw [hi,if_neg (by simpa using h9)]; rfl
 ·have h9 : (b.getD 9 0).toNat ≤ 12 := by simp only [decide_eq_false_iff_not] at hp; omega
  simp only [go_sem,qW,hp]
  refine wp_for (5) (fun k st => ∃ fr en cnt,st = ⟨fr,en,cnt⟩ ∧ (fr 0 = .str s) ∧ (fr 3 = .bool false) ∧ (fr 4 = .int .i64 ((b.getD 9 0).toNat : Int)) ∧ (fr 5 = .int .i64 (seqP b k)) ∧ (fr 6 = .int .i64 k) ∧ (1 ≤ k) ∧ (fr 2 = .ptr ⟨0,2,0⟩ 0) ∧ (en ⟨0,2,0⟩ = some (.box [.int .i64 0,.int .i64 0,.int .i64 0,.int .i64 0,.bool false,.str ⟨#[]⟩] false))) 1 (by omega) ⟨_,_,_,rfl,(by first | (simp only [go_sem,qW]; (try rfl); done) | rfl | (simp; done)),(by first | (simp only [go_sem,qW]; (try rfl); done) | rfl | (simp; done)),(by first | (simp only [go_sem,qW]; (try rfl); done) | rfl | (simp; done)),(by first | (simp only [go_sem,qW]; (try rfl); done) | rfl | (simp; done)),(by first | (simp only [go_sem,qW]; (try rfl); done) | rfl | (simp; done)),(by first | (simp only [go_sem,qW]; (try rfl); done) | rfl | (simp; done)),(by first | (simp only [go_sem,qW]; (try rfl); done) | rfl | (simp; done)),(by first | (simp only [go_sem,qW]; (try rfl); done) | rfl | (simp; done))⟩ ?_
  rintro k st hk ⟨fr,en,cnt,rfl,h0,h3,h4,h5,h6,hI,h2,e2⟩
  simp only [go_sem,qW,h0,h3,h4,h5,h6,h2,e2]
  refine wcond_split (fun h1 => ?_) (fun h1 => ?_)
  ·have h' : k ≤ 4 := by simp only [decide_eq_true_eq] at h1; omega
   have xk := ixs_at h (k := .i64) k (by omega)
   rw [← hb] at xk
   obtain ⟨p1,p2⟩ := seqP_lt b k h'
   have bk := b_lt (b.getD k 0)
   have w1 : IntKind.i64.wrap (256 * seqP b k) = 256 * seqP b k := wrap_in (by omega)
   have w2 : IntKind.i64.wrap (256 * seqP b k + (b.getD k 0).toNat) = 256 * seqP b k + (b.getD k 0).toNat := wrap_in (by omega)
   have hwk : IntKind.i64.wrap ((k : Int) + 1) = ((k + 1 : Nat) : Int) := by rw [wrap_in (by omega)]; omega
   have hs : seqP b (k + 1) = 256 * seqP b k + (b.getD k 0).toNat := by
    obtain ⟨k',rfl⟩ : ∃ k',k = k' + 1 := ⟨k - 1,by omega⟩
    rfl
   have h5 : k < 5 := by omega
   simp only [go_sem,qW,h1,h5,h0,h3,h4,h5,h6,h2,e2,xk,wrap_V8,w1,w2]
   refine ⟨_,_,_,rfl,?_⟩
   simp only [go_sem,qW,h0,h3,h4,h5,h6,h2,e2,hwk,hs]
  ·have : k = 5 := by simp only [decide_eq_false_iff_not] at h1; omega
   subst this
   simp only [go_sem,qW,h1,h0,h3,h4,h5,h6,h2,e2]
   refine wp_foot ?_
   have hx : s.extract 10 (10 + (b.getD 9 0).toNat) = ⟨((b.drop 10).take (b.getD 9 0).toNat).toArray⟩ := by rw [hb]; exact ext_l _
   have wn : IntKind.i64.wrap (10 + ((b.getD 9 0).toNat : Int)) = ((10 + (b.getD 9 0).toNat : Nat) : Int) := by rw [wrap_in (by omega)]; omega
   have hsl := fun en => slice_l (en := en) (s := s) (n := (b.getD 9 0).toNat) (by omega)
   simp only [go_sem,qW,x5,x6,x7,x8,wrap_V8,binV,wn,hsl,hx,h,h0,h3,h4,h5,h6,h2,e2,List.all_cons,List.getElem?_cons_zero,List.getElem?_cons_succ,Bool.true_or,Bool.or_true,Bool.false_eq_true,if_false]
   have hq : recOf b = DRec.mk (seqP b 5) (b.getD 5 0).toNat (b.getD 6 0).toNat (b.getD 7 0).toNat (decide (((b.getD 8 0).toNat : Int) = 1)) ⟨((b.drop 10).take (b.getD 9 0).toNat).toArray⟩ := by
    rw [recOf_eq,seqP_5]
    congr 1
    unfold seq4; omega
   generalize hr0 : DRec.mk (seqP b 5) (b.getD 5 0).toNat (b.getD 6 0).toNat (b.getD 7 0).toNat (decide (((b.getD 8 0).toNat : Int) = 1)) ⟨((b.drop 10).take (b.getD 9 0).toNat).toArray⟩ = r at hq
   have hrc : r.cs = [.int .i64 (seqP b 5),.int .i64 (b.getD 5 0).toNat,.int .i64 (b.getD 6 0).toNat,.int .i64 (b.getD 7 0).toNat,.bool (decide (((b.getD 8 0).toNat : Int) = 1)),.str ⟨((b.drop 10).take (b.getD 9 0).toNat).toArray⟩] := by rw [← hr0]
   have hf := R16_Right_pc r
   rw [DRec.enc,hrc] at hf
   refine wp_foot ?_
   simp only [go_sem,qW,h0,h3,h4,h5,h6,h2,e2,hf.ret,List.all_cons,List.getElem?_cons_zero,List.getElem?_cons_succ,Bool.true_or,Bool.or_true,Bool.false_eq_true,if_false]
   refine guard_split (fun g1 => ?_) (fun g1 => ?_)
   ·have hfi : fineB r = true := by simpa using g1
    have he := R16_write_pc r hfi
    rw [DRec.enc,hrc] at he
    have hi : isRec b = (encB r == b) := by rw [isRec,hq,decide_eq_true h9,hfi]; rfl
    have hts : ((⟨(encB r).toArray⟩ : ByteArray).toList == s.toList) = (encB r == b) := by rw [Go.ByteArray.toList_eq,Go.ByteArray.toList_eq,hb]
    simp only [go_sem,qW,g1,he.ret,hts,h0,h3,h4,h5,h6,h2,e2,List.all_cons,List.getElem?_cons_zero,List.getElem?_cons_succ,Bool.true_or,Bool.or_true,Bool.false_eq_true,if_false]
    rw [hi,if_pos (decide_eq_true h9),hq,DRec.enc,hrc]
   ·have hfi : fineB r = false := by simpa using g1
    have hi : isRec b = false := by rw [isRec,hq,hfi,Bool.false_and,Bool.and_false]
    simp only [go_sem,qW,g1,h0,h3,h4,h5,h6,h2,e2,List.all_cons,List.getElem?_cons_zero,List.getElem?_cons_succ,Bool.true_or,Bool.or_true,Bool.false_eq_true,if_false]
    rw [hi,if_pos (decide_eq_true h9),hq,DRec.enc,hrc]
theorem zero_l (s : ByteArray) (hl : s.data.toList.length = 24) : (s.toList == (⟨#[0,0,0,0,0,0,0,0,0,0,0,0,0,0,0,0,0,0,0,0,0,0,0,0]⟩ : ByteArray).toList) = (s.data.toList == List.replicate 24 0) := by
 rw [Go.ByteArray.toList_eq,Go.ByteArray.toList_eq]; rfl
theorem R16_Record_pc (s : ByteArray) : PC L F.R16_Record [.str s] (recR s) := by
 refine pc_of LF.R16_Record rfl rfl ?_
 simp only [go_sem,qW,C.R16_Record]
 refine wcond_split (fun hp => ?_) (fun hp => ?_)
 ·have h : ¬ s.size = 24 := by
   intro h; simp [h] at hp
  try simp only [go_sem,qW,hp]
  rw [recR,if_neg h]; rfl
 ·have h : s.size = 24 := by
   simp only [Bool.not_eq_false',decide_eq_true_eq] at hp; omega
  have hl : s.data.toList.length = 24 := by rw [Array.length_toList]; exact h
  simp only [go_sem,qW,zero_l s hl]
  refine wcond_split (fun h1 => ?_) (fun h1 => ?_)
  ·try simp only [go_sem,qW,h1]
   rw [recR,if_pos h,if_pos h1]; rfl
  ·have h1' : ¬ (s.data.toList == List.replicate 24 0) = true := by rw [h1]; decide
   have hd := R16_read_pc s h
   cases hi : isRec s.data.toList with
   | true =>
    have h9 : decide ((s.data.toList.getD 9 0).toNat ≤ 12) = true := by
     simp only [isRec,Bool.and_eq_true] at hi; exact hi.1
    rw [hi,if_pos h9] at hd
    simp only [go_sem,qW,h1,hd.ret,Bool.not_true]
    rw [recR,if_pos h,if_neg h1',hi]; rfl
   | false =>
    cases h9 : decide ((s.data.toList.getD 9 0).toNat ≤ 12) with
    | true =>
     rw [hi,if_pos h9] at hd
     simp only [go_sem,qW,h1,hd.ret,Bool.not_false]
     rw [recR,if_pos h,if_neg h1',hi]; rfl
    | false =>
     rw [hi,if_neg (by rw [h9]; decide)] at hd
     simp only [go_sem,qW,h1,hd.ret,Bool.not_false]
     rw [recR,if_pos h,if_neg h1',hi]; rfl
theorem b8_nat (x : Int) : ((b8 x).toNat : Int) = x % 256 := by
 simp only [b8,UInt8.toNat_ofNat']
 omega
theorem recOf_enc {r : DRec} (h : fineB r = true) : recOf (encB r) = r ∧ isRec (encB r) = true := by
 obtain ⟨h1,h2,h3,h4,h5,h6,h7,h8,h9⟩ := fine_all h
 have hx : r.text.data.toList.length = r.text.size := by rw [Array.length_toList]; rfl
 have g1 : (encB r).getD 1 0 = b8 (r.seq / 16777216) := rfl
 have g2 : (encB r).getD 2 0 = b8 (r.seq / 65536) := rfl
 have g3 : (encB r).getD 3 0 = b8 (r.seq / 256) := rfl
 have g4 : (encB r).getD 4 0 = b8 r.seq := rfl
 have g5 : (encB r).getD 5 0 = b8 r.i := rfl
 have g6 : (encB r).getD 6 0 = b8 r.m := rfl
 have g7 : (encB r).getD 7 0 = b8 r.key := rfl
 have g8 : (encB r).getD 8 0 = if r.put then 1 else 0 := rfl
 have g9 : (encB r).getD 9 0 = b8 r.text.size := rfl
 have n9 : (b8 r.text.size).toNat = r.text.size := by
  have := b8_nat (r.text.size : Int)
  omega
 have hd : (encB r).drop 10 = (r.text.data.toList ++ List.replicate (13 - r.text.size) 0) ++ [165] := rfl
 have ht : ((encB r).drop 10).take r.text.size = r.text.data.toList := by
  rw [hd,List.append_assoc,← hx,List.take_left]
 have hr : recOf (encB r) = r := by
  obtain ⟨seq,i,m,key,put,text⟩ := r
  rw [recOf,g5,g6,g7,g8,g9,n9,ht]
  have q : seq4 (encB ⟨seq,i,m,key,put,text⟩) = seq := by
   rw [seq4,g1,g2,g3,g4,b8_nat,b8_nat,b8_nat,b8_nat]
   simp only at h1 h2 ⊢
   omega
  rw [q,b8_nat,b8_nat,b8_nat]
  simp only at h3 h4 h5 h6 h7 h8 ⊢
  congr 1
  ·omega
  ·omega
  ·omega
  ·cases put <;> rfl
 refine ⟨hr,?_⟩
 rw [isRec,hr,h,g9,n9,decide_eq_true h9]
 simp
theorem recR_enc {r : DRec} (h : fineB r = true) : recR ⟨(encB r).toArray⟩ = .tup [r.enc,.int .i64 0] := by
 obtain ⟨h1,h2⟩ := recOf_enc h
 have hs : (⟨(encB r).toArray⟩ : ByteArray).size = 24 := by rw [size_l,encB_len r (fine_size h).1]
 have h0 : ¬ ((encB r) == List.replicate 24 0) = true := by
  have : (encB r == List.replicate 24 0) = false := rfl
  rw [this]; decide
 rw [recR,if_pos hs]
 show (if ((encB r) == List.replicate 24 0) = true then _ else if isRec (encB r) = true then _ else _) = _
 rw [if_neg h0,if_pos h2,h1]
theorem recR_two (s : ByteArray) : ∃ (q : DRec) (n : Int),recR s = .tup [q.enc,.int .i64 n] := by
 unfold recR
 split
 ·split
  ·exact ⟨_,_,rfl⟩
  ·split <;> exact ⟨_,_,rfl⟩
 ·exact ⟨_,_,rfl⟩
theorem eq_rec (a b c d : Int) (p : Bool) (s : ByteArray) : binVal .eql (.agg [.num,.num,.num,.num,.bool,.str]) (.agg [.int .i64 a,.int .i64 b,.int .i64 c,.int .i64 d,.bool p,.str s]) (.agg [.int .i64 a,.int .i64 b,.int .i64 c,.int .i64 d,.bool p,.str s]) = some (.bool true) := by
 simp [binVal,eqVal,eqCells,eqCell]
theorem neq_rec (a b c d : Int) (p : Bool) (s : ByteArray) : binVal .neq (.agg [.num,.num,.num,.num,.bool,.str]) (.agg [.int .i64 a,.int .i64 b,.int .i64 c,.int .i64 d,.bool p,.str s]) (.agg [.int .i64 a,.int .i64 b,.int .i64 c,.int .i64 d,.bool p,.str s]) = some (.bool false) := by
 simp [binVal,eqVal,eqCells,eqCell]
theorem W16_DiskRecords_pc (hk : PC L F.W16_works [] (.bool true)) (r : DRec) (s : ByteArray) : PC L F.W16_DiskRecords [r.enc,.str s] (.bool true) := by
 obtain ⟨q,n,hq⟩ := recR_two s
 have d1 := disk_Record_pc s
 have d2 := R16_Record_pc s
 rw [hq] at d1 d2
 have b1 := disk_Bytes_pc r
 have b2 := R16_Bytes_pc r
 refine pc_of LF.W16_DiskRecords rfl rfl ?_
 simp only [go_sem,qW,C.W16_DiskRecords]
 refine guard_split (fun g1 => ?_) (fun g1 => ?_)
 ·simp only [go_sem,qW,g1]
  refine wcond_split (fun g2 => ?_) (fun g2 => ?_)
  ·simp only [go_sem,qW,g2,hk.ret]
  ·cases hf : fineB r with
   | true =>
    rw [okBytes,hf,if_pos rfl] at b1 b2
    have d3 := disk_Record_pc ⟨(encB r).toArray⟩
    rw [recR_enc hf] at d3
    simp only [go_sem,qW,g2,b1.ret,b2.ret,d1.ret,d2.ret,d3.ret,hk.ret,neq_rec,eq_rec,beq_self_eq_true,Bool.not_true,Bool.not_false,Bool.false_eq_true,if_false,if_true]
   | false =>
    rw [okBytes,hf,if_neg (by decide)] at b1 b2
    simp only [go_sem,qW,g2,b1.ret,b2.ret,d1.ret,d2.ret,hk.ret,neq_rec,eq_rec,beq_self_eq_true,Bool.not_true,Bool.not_false,Bool.false_eq_true,if_false,if_true]
 ·simp only [go_sem,qW,g1,hk.ret]
open Go.ChangeShapes Go.WideShapes Go.ChangeAt Go.RowKit
set_option maxRecDepth 100000
theorem own : ownKnob Tryz.prog.godebug = none := by kernel_rfl
theorem laidOut : laidOutB Tryz.prog = true := by kernel_rfl
def plainT (t : TypeId) : Bool := [3,4,9,23].contains t
theorem slicesFine : closedOk Tryz.prog plainT = true := by kernel_rfl
theorem mixed : Tryz.prog.follows .mixedOrders = true := by kernel_rfl
theorem open_rec {H : Type} {enc : TypeId × Value → H} {W : World} {sp : Nat → Bool} {t : TypeId} {v : Value} {d : DataW H} {ps : List MemPlace} (ht : t < Tryz.prog.types.size) (hs : plainT t = true) (hv : ∃ cs,v = .agg cs) (h : DataW.Trod enc Tryz.prog W 0 sp true t v d ps) :
  ∃ n vs,Fits Tryz.prog (n + 10) t vs ∧ VR (There W) Gh.none W (.agg vs) v := by
 obtain ⟨fuel,h⟩ := h
 obtain ⟨x,rfl⟩ := hv
 obtain ⟨vs,h1,h2⟩ := open_data laidOut plainT slicesFine fuel t x.toList _ ht hs h
 exact ⟨fuel,vs,fits_more 10 h1,agg_of_reads h2⟩
theorem fits_bool {P : Program} {t : TypeId} {n : Nat} {vs : List Val} (hu : P.underlying t = some .bool) (h : Fits P (n + 1) t vs) : ∃ b,vs = [.bool b] := by
 simpa only [Fits,hu] using h
theorem fits_DRec {n : Nat} {x : List Val} (h : Fits Tryz.prog (n + 10) 23 x) : ∃ r : DRec,x = r.cs := by
 have h1 := fits_struct Tryz.underlying23 h
 simp only [FitsFs] at h1
 obtain ⟨a,b,rfl,_,ha,c,d,rfl,_,hc,e,f,rfl,_,he,g,i,rfl,_,hg,j,k,rfl,_,hj,l,m,rfl,_,hm,rfl⟩ := h1
 obtain ⟨i1,rfl⟩ := fits_int Tryz.underlying3 ha
 obtain ⟨i2,rfl⟩ := fits_int Tryz.underlying3 hc
 obtain ⟨i3,rfl⟩ := fits_int Tryz.underlying3 he
 obtain ⟨i4,rfl⟩ := fits_int Tryz.underlying3 hg
 obtain ⟨b5,rfl⟩ := fits_bool Tryz.underlying4 hj
 obtain ⟨s6,rfl,_⟩ := fits_str Tryz.underlying9 hm
 exact ⟨⟨i1,i2,i3,i4,b5,s6⟩,rfl⟩
theorem open_text {W : World} {base : Nat} {v : Value} (h : Value.okWide Tryz.prog W .any base 9 v) : ∃ s : ByteArray,v = .string s := by
 exact okWide_string Tryz.underlying9 h
end Go.Proofs.YtcoemakddkfdcaaGreat
