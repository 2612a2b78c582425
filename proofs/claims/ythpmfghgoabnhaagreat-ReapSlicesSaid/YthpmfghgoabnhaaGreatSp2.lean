/- What programs must be: plain definitions. -/
import Derived.Test.YthpmfghgoabnhaaGreatSp
import Derived.Laws.Strings
set_option linter.all false
namespace Go.Abs
def octs (s : ByteArray) : List UInt8 := s.data.toList
theorem octs_len (s : ByteArray) : (octs s).length = s.size := by unfold octs; rw [Array.length_toList]; rfl
theorem ixs_oct {s : ByteArray} {k : IntKind} {j : Nat} (h : j < (octs s).length) : opIxs (.str s) (.int k (j : Int)) = some { v := .int .u8 ((octs s)[j].toNat : Nat) } := ixs_nat h
theorem octs_tail (s : ByteArray) : octs (s.extract 1 s.size) = (octs s).drop 1 := by
  have hs : s.size = s.data.toList.length := by rw [Array.length_toList]; rfl
  unfold octs
  rw [ByteArray.data_extract, Array.toList_extract, hs]
  show List.take _ (List.drop 1 _) = _
  exact List.take_of_length_le (by rw [List.length_drop]; exact Nat.le_refl _)
def isSmall (b : UInt8) : Bool := decide (97 ≤ (b.toNat : Int)) && decide ((b.toNat : Int) ≤ 122)
def smallL (l : List UInt8) : Bool := l.all isSmall
def greatL : List UInt8 → Bool
  | [] => false
  | b :: l => decide ((b :: l).length ≤ 8) && decide (65 ≤ (b.toNat : Int)) && decide ((b.toNat : Int) ≤ 90) && smallL l
def strEq (x y : ByteArray) : Bool := x.toList == y.toList
def hasStr (l : List ByteArray) (s : ByteArray) : Bool := l.any fun x => strEq x s
def apartStr : List ByteArray → List ByteArray → Bool
  | _, [] => true
  | met, s :: l => !hasStr met s && apartStr (met ++ [s]) l
def conOk (c : BCon) : Bool := greatL (octs c.name) && inR c.args 0 3
def consOk (l : List BCon) : Bool := l.all conOk && decide ((l.length : Int) ≤ 20) && apartStr [] (l.map BCon.name)
def patHead0 (cons : List BCon) (f n : Int) (k : Nat) : Bool :=
  if f = 1 ∨ f = 2 ∨ f = 5 then decide ((k : Int) = 0) && decide (n = 0)
  else if f = 3 then decide ((k : Int) = 0) && inR n (-1000000000) 1000000000
  else if f = 4 then decide ((k : Int) = 0) && inR n 0 1
  else if f = 6 then inR n 0 (cons.length - 1) && decide ((k : Int) = (cons.getD n.toNat default).args) else false
def noText (t : ByteArray) : Bool := t.toList == (⟨#[]⟩ : ByteArray).toList
def patHead (cons : List BCon) (f n : Int) (t : ByteArray) (k : Nat) : Bool := patHead0 cons f n k && noText t
mutual
def patOk (cons : List BCon) : Pat → Bool
  | .mk f n t ps => patHead cons f n t ps.length && patsOk cons ps
def patsOk (cons : List BCon) : List Pat → Bool
  | [] => true
  | p :: ps => patOk cons p && patsOk cons ps
end
theorem patsOk_all (cons : List BCon) : ∀ l, patsOk cons l = l.all (patOk cons)
  | [] => by simp [patsOk]
  | p :: ps => by simp [patsOk, patsOk_all cons ps]
theorem patOk_eq (cons : List BCon) (p : Pat) : patOk cons p = (patHead cons p.form p.n p.text p.parts.length && p.parts.all (patOk cons)) := by
  cases p; simp only [patOk, patsOk_all, Pat.form, Pat.n, Pat.text, Pat.parts]
mutual
def weigh : Pat → Int → Int
  | .mk _ _ _ ps, left => if left < 1 then -1 else weighs ps (left - 1)
def weighs : List Pat → Int → Int
  | [], left => left
  | p :: ps, left => if 0 ≤ left then weighs ps (weigh p left) else left
end
mutual
def smallTexts : Pat → Bool
  | .mk _ _ t ps => smallTextss ps && decide ((t.size : Int) ≤ 30)
def smallTextss : List Pat → Bool
  | [] => true
  | p :: ps => smallTexts p && smallTextss ps
end
theorem smallTextss_all : ∀ l, smallTextss l = l.all smallTexts
  | [] => by simp [smallTextss]
  | p :: ps => by simp [smallTextss, smallTextss_all ps]
theorem smallTexts_eq (p : Pat) : smallTexts p = (p.parts.all smallTexts && decide ((p.text.size : Int) ≤ 30)) := by
  cases p; simp only [smallTexts, smallTextss_all]; rfl
theorem weigh_eq (p : Pat) (left : Int) : weigh p left = if left < 1 then -1 else weighs p.parts (left - 1) := by
  cases p; simp only [weigh, Pat.parts]
mutual
theorem weigh_le : ∀ (p : Pat) (left : Int), -1 ≤ left → -1 ≤ weigh p left ∧ weigh p left ≤ left
  | .mk _ _ _ ps, left, h => by
    rw [weigh]; split
    · omega
    · have := weighs_le ps (left - 1) (by omega); omega
theorem weighs_le : ∀ (l : List Pat) (left : Int), -1 ≤ left → -1 ≤ weighs l left ∧ weighs l left ≤ left
  | [], left, h => by rw [weighs]; omega
  | p :: ps, left, h => by
    rw [weighs]; split
    · have h1 := weigh_le p left h
      have h2 := weighs_le ps (weigh p left) h1.1
      omega
    · omega
end
theorem weighs_neg : ∀ {l : List Pat} {left : Int}, left < 0 → weighs l left = left
  | [], _, _ => by rw [weighs]
  | _ :: _, _, h => by rw [weighs, if_neg (by omega)]
def smallPat (p : Pat) : Bool := decide (0 ≤ weigh p 16) && smallTexts p
def smallNode (n : BNode) : Bool := decide ((n.kids.length : Int) ≤ 10) && decide ((n.pats.length : Int) ≤ 10) && n.pats.all smallPat
def smallProg (p : BProg) : Bool :=
  decide ((p.nodes.length : Int) ≤ 320) && decide ((p.funs.length : Int) ≤ 320) && decide ((p.cons.length : Int) ≤ 25) && p.cons.all (fun c => decide ((c.name.size : Int) ≤ 40)) && p.nodes.all smallNode
def kidsOf (op : Int) (pats : Int) (args : Int) : Int :=
  if op = 1 ∨ op = 2 ∨ op = 3 ∨ op = 4 ∨ op = 21 ∨ op = 25 ∨ op = 28 then 0
  else if op = 5 ∨ op = 27 ∨ op = 16 ∨ op = 17 ∨ op = 19 ∨ op = 20 ∨ op = 23 ∨ op = 26 ∨ op = 24 then 1
  else if op = 6 ∨ op = 7 ∨ op = 9 ∨ op = 10 ∨ op = 11 ∨ op = 12 ∨ op = 13 ∨ op = 18 ∨ op = 22 then 2
  else if op = 8 then 3 else if op = 15 then 1 + pats else if op = 14 then args else -1
def patFine (cons : List BCon) (q : Pat) : Bool := decide (0 ≤ weigh q 12) && patOk cons q
def numOk (p : BProg) (n : BNode) : Bool :=
  if n.op = 1 then inR n.n (-1000000000) 1000000000
  else if n.op = 2 then inR n.n 0 1
  else if n.op = 4 then inR n.n (-(p.funs.length : Int)) 29
  else if n.op = 24 then inR n.n 0 3
  else if n.op = 14 then inR n.n 0 (p.cons.length - 1) else decide (n.n = 0)
def argsOf (p : BProg) (n : BNode) : Int := if n.op = 14 ∧ inR n.n 0 (p.cons.length - 1) = true then (p.cons.getD n.n.toNat default).args else 0
def patsNum (n : BNode) : Bool := if n.op = 15 then inR n.pats.length 1 5 else decide ((n.pats.length : Int) = 0)
def nodeOk (p : BProg) (n : BNode) : Bool :=
  ((numOk p n && patsNum n) && n.pats.all (patFine p.cons)) && decide ((n.kids.length : Int) = kidsOf n.op n.pats.length (argsOf p n))
def meet (lo hi : Int) : List Bool → List Int → Option (List Bool)
  | u, [] => some u
  | u, x :: l => if inR x lo hi && !(u.getD x.toNat false) then meet lo hi (u.set x.toNat true) l else none
def meetNodes (p : BProg) : Nat → List Bool → List BNode → Option (List Bool)
  | _, u, [] => some u
  | i, u, n :: l => if nodeOk p n then (meet ((i : Int) + 1) (p.nodes.length - 1) u n.kids).bind fun u => meetNodes p (i + 1) u l else none
def allMet : Option (List Bool) → Bool
  | some u => u.all id
  | none => false
def formedOk (p : BProg) : Bool :=
  decide ((p.nodes.length : Int) ≤ 300) && inR p.funs.length 1 p.nodes.length && inR p.main 0 (p.funs.length - 1) && consOk p.cons &&
    allMet ((meet 0 (p.nodes.length - 1) (List.replicate p.nodes.length false) p.funs).bind fun u => meetNodes p 0 u p.nodes)
theorem Pat.few_parts {p : Pat} (h : p.few) : Few p.parts.length ∧ Few p.text.size ∧ ∀ q ∈ p.parts, q.few := by
  cases h with | mk f n t l h ht k => exact ⟨h, ht, k⟩
theorem Pat.ind {P : Pat → Prop} (h : ∀ p : Pat, (∀ q ∈ p.parts, P q) → P p) : ∀ p, P p := by
  intro p
  induction p using Pat.rec (motive_2 := fun l => ∀ q ∈ l, P q) with
  | mk f n t l ih => exact h _ ih
  | nil => rename_i q hq; simp at hq
  | cons p l h1 h2 =>
    rename_i q hq
    rcases List.mem_cons.1 hq with rfl | hq
    · exact h1
    · exact h2 _ hq
theorem octs_get {s : ByteArray} {i : Nat} (h : i < (octs s).length) : s.get! i = (octs s)[i] := by
  have h' : i < s.data.size := by rw [octs_len] at h; exact h
  show s.data[i]! = _
  rw [getElem!_pos s.data i h']
  simp only [octs, Array.getElem_toList]
theorem decode_small {s : ByteArray} {i : Nat} (h : i < (octs s).length) :
    (isSmall (octs s)[i] = true → Utf8.decode s i = ((octs s)[i].toNat, 1)) ∧ (isSmall (octs s)[i] = false → ((Utf8.decode s i).1 : Int) < 97 ∨ 122 < ((Utf8.decode s i).1 : Int)) := by
  have hg := octs_get h
  simp only [isSmall, Bool.and_eq_true, decide_eq_true_eq, Bool.and_eq_false_iff, decide_eq_false_iff_not]
  constructor
  · intro hb
    unfold Utf8.decode
    simp only [Nat.add_zero, hg]
    rw [if_pos (by omega)]
  · intro hb
    unfold Utf8.decode
    simp only [Nat.add_zero, hg, Utf8.runeError]
    split
    · simp only; omega
    · split
      · split
        · simp only; omega
        · simp
      · split
        · split
          · rename_i h1; simp only [Bool.and_eq_true, decide_eq_true_eq] at h1; simp only; omega
          · simp
        · split
          · split
            · rename_i h1; simp only [Bool.and_eq_true, decide_eq_true_eq] at h1; simp only; omega
            · simp
          · simp
def metStr (ks : List ByteArray) (s : ByteArray) : List ByteArray := if hasStr ks s then ks else ks ++ [s]
theorem metStr_len : ∀ (l ks : List ByteArray), (l.foldl metStr ks).length ≤ ks.length + l.length
  | [], ks => by simp
  | s :: l, ks => by
    have := metStr_len l (metStr ks s)
    simp only [List.foldl_cons, List.length_cons]
    have h2 : (metStr ks s).length ≤ ks.length + 1 := by unfold metStr; split <;> simp
    omega
theorem metStr_apart : ∀ (l ks : List ByteArray), decide ((l.foldl metStr ks).length = ks.length + l.length) = apartStr ks l
  | [], ks => by simp [apartStr]
  | s :: l, ks => by
    simp only [List.foldl_cons, List.length_cons, apartStr]
    by_cases h : hasStr ks s = true
    · have := metStr_len l ks
      simp only [metStr, h, if_true, Bool.not_true, Bool.false_and, decide_eq_false_iff_not]
      omega
    · have := metStr_apart l (ks ++ [s])
      simp only [Bool.not_eq_true] at h
      simp only [metStr, h, Bool.false_eq_true, if_false, Bool.not_false, Bool.true_and]
      rw [← this, decide_eq_decide]
      simp only [List.length_append, List.length_cons, List.length_nil]
      omega
mutual
def psize : Pat → Int → Int
  | .mk _ _ _ ps, most => psizes ps most 1
def psizes : List Pat → Int → Int → Int
  | [], _, n => n
  | q :: qs, most, n => if most < n then n else psizes qs most (n + psize q (most - n))
end
theorem psize_eq (p : Pat) (most : Int) : psize p most = psizes p.parts most 1 := by cases p; simp only [psize, Pat.parts]
theorem psizes_over : ∀ {l : List Pat} {most n : Int}, most < n → psizes l most n = n
  | [], _, _, _ => by rw [psizes]
  | _ :: _, _, _, h => by rw [psizes, if_pos h]
mutual
theorem psize_le : ∀ (p : Pat) (most : Int), 0 ≤ most → 1 ≤ psize p most ∧ psize p most ≤ most + 1
  | .mk _ _ _ ps, most, h => by rw [psize]; exact psizes_le ps most 1 (by omega)
theorem psizes_le : ∀ (l : List Pat) (most n : Int), n ≤ most + 1 → n ≤ psizes l most n ∧ psizes l most n ≤ most + 1
  | [], most, n, h => by rw [psizes]; omega
  | q :: qs, most, n, h => by
    rw [psizes]; split
    · omega
    · have h1 := psize_le q (most - n) (by omega)
      have h2 := psizes_le qs most (n + psize q (most - n)) (by omega)
      omega
end
mutual
theorem weigh_psize : ∀ (p : Pat) (most : Int), 0 ≤ most → weigh p most = if psize p most ≤ most then most - psize p most else -1
  | .mk _ _ _ ps, most, h => by
    have := weighs_psizes ps most 1 (by omega)
    rw [weigh, psize]
    split
    · rename_i h0
      have h1 : most = 0 := by omega
      subst h1
      rw [psizes_over (by omega), if_neg (by omega)]
    · exact this
theorem weighs_psizes : ∀ (l : List Pat) (most n : Int), n ≤ most + 1 → weighs l (most - n) = if psizes l most n ≤ most then most - psizes l most n else -1
  | [], most, n, h => by
    rw [weighs, psizes]; split <;> omega
  | q :: qs, most, n, h => by
    by_cases hm : 0 ≤ most - n
    · rw [weighs, psizes, if_pos hm, if_neg (show ¬ most < n by omega)]
      have h1 := psize_le q (most - n) (by omega)
      have hw := weigh_psize q (most - n) (by omega)
      have h2 := weighs_psizes qs most (n + psize q (most - n)) (by omega)
      rw [hw, ← h2]
      split
      · congr 1; omega
      · rw [weighs_neg (by omega), weighs_neg (by omega)]; omega
    · rw [weighs, psizes, if_neg hm, if_pos (show most < n by omega), if_neg (by omega)]; omega
end
theorem psize_12 (q : Pat) : decide (psize q 12 ≤ 12) = decide (0 ≤ weigh q 12) := by
  have h := weigh_psize q 12 (by omega)
  rw [h, decide_eq_decide]
  split <;> omega
def kidsVal (op : Int) : Val :=
  if op = 1 ∨ op = 2 ∨ op = 3 ∨ op = 4 ∨ op = 21 ∨ op = 25 ∨ op = 28 then .ifc 273 (.int .i64 0)
  else if op = 5 ∨ op = 27 ∨ op = 16 ∨ op = 17 ∨ op = 19 ∨ op = 20 ∨ op = 23 ∨ op = 26 ∨ op = 24 then .ifc 273 (.int .i64 1)
  else if op = 6 ∨ op = 7 ∨ op = 9 ∨ op = 10 ∨ op = 11 ∨ op = 12 ∨ op = 13 ∨ op = 18 ∨ op = 22 then .ifc 273 (.int .i64 2)
  else if op = 8 then .ifc 273 (.int .i64 3) else if op = 14 then .ifc 274 (.agg []) else if op = 15 then .ifc 261 (.agg []) else .nili
theorem kidsVal_cases (op : Int) : (∃ c : Int, kidsVal op = .ifc 273 (.int .i64 c) ∧ (∀ n a, kidsOf op n a = c) ∧ op ≠ 14 ∧ op ≠ 15) ∨ (op = 14 ∧ kidsVal op = .ifc 274 (.agg [])) ∨
    (op = 15 ∧ kidsVal op = .ifc 261 (.agg [])) ∨ (kidsVal op = .nili ∧ (∀ n a, kidsOf op n a = -1) ∧ op ≠ 14 ∧ op ≠ 15) := by
  unfold kidsVal kidsOf
  split
  · left; refine ⟨0, rfl, fun _ _ => rfl, ?_, ?_⟩ <;> omega
  split
  · left; refine ⟨1, rfl, fun _ _ => rfl, ?_, ?_⟩ <;> omega
  split
  · left; refine ⟨2, rfl, fun _ _ => rfl, ?_, ?_⟩ <;> omega
  split
  · left; refine ⟨3, rfl, fun _ _ => rfl, ?_, ?_⟩ <;> omega
  split
  · right; left; exact ⟨by assumption, rfl⟩
  split
  · right; right; left; exact ⟨by assumption, rfl⟩
  · right; right; right; refine ⟨rfl, fun n a => ?_, ?_, ?_⟩ <;> first | omega | skip
theorem findKey_str (s : ByteArray) : ∀ ks : List ByteArray, (∃ i, findKey .str (.str s) (ks.map .str) = some (some i) ∧ hasStr ks s = true ∧ (ks.map Val.str).set i (.str s) = ks.map .str) ∨
    (findKey .str (.str s) (ks.map .str) = some none ∧ hasStr ks s = false)
  | [] => .inr ⟨rfl, rfl⟩
  | x :: ks => by
    have hsym : (s.toList == x.toList) = strEq x s := by unfold strEq; exact Bool.beq_comm
    by_cases h : strEq x s = true
    · refine .inl ⟨0, ?_, ?_, ?_⟩
      · simp only [List.map_cons, findKey, eqVal, hsym, h]
      · simp [hasStr, h]
      · have : x = s := by
          simp only [strEq, beq_iff_eq] at h
          rw [Go.ByteArray.toList_eq, Go.ByteArray.toList_eq] at h
          cases x; cases s; simp only at h
          congr
          exact Array.toList_inj.1 h
        simp [this]
    · simp only [Bool.not_eq_true] at h
      rcases findKey_str s ks with ⟨i, h1, h2, h3⟩ | ⟨h1, h2⟩
      · refine .inl ⟨i + 1, ?_, ?_, ?_⟩
        · simp only [List.map_cons, findKey, eqVal, hsym, h, h1]
        · simp only [hasStr, List.any_cons, h, Bool.false_or]; exact h2
        · simp [h3]
      · refine .inr ⟨?_, ?_⟩
        · simp only [List.map_cons, findKey, eqVal, hsym, h, h1]
        · simp only [hasStr, List.any_cons, h, Bool.false_or]; exact h2
def given (p : BProg) (w : MWorld) : Bool := formedOk p && worldOk p w
end Go.Abs
