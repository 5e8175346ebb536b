
/- Variable-length numbers and the bytes of a ledger, no program in sight. -/
import Derived.Test.YtebfhljamoapjaaKa
namespace Go.Proofs.Ytebfhljamoapjaa
open Go.RowKit
set_option linter.unusedVariables false
set_option linter.unusedSimpArgs false

/-- A number's bytes. -/
def encF : Nat → Nat → List Int
  | 0, _ => []
  | f + 1, n => if n < 128 then [(n : Int)] else ((n % 128 + 128 : Nat) : Int) :: encF f (n / 128)
def encU (n : Nat) : List Int := encF 10 n
/-- Reading a number: value and next place. -/
def dU (bs : List Int) : Nat → Nat → Nat → Nat → Option (Nat × Nat)
  | 0, _, _, _ => none
  | f + 1, p, i, acc =>
    if bs.length ≤ p then none
    else if (i = 9 ∧ 1 < (bs.getD p 0).toNat) ∨ (0 < i ∧ (bs.getD p 0).toNat = 0) then none
    else if (bs.getD p 0).toNat < 128 then some (acc + (bs.getD p 0).toNat * 2 ^ (7 * i), p + 1)
    else dU bs f (p + 1) (i + 1) (acc + ((bs.getD p 0).toNat % 128) * 2 ^ (7 * i))
/-- Bytes are bytes. -/
def BOk (bs : List Int) : Prop := ∀ z ∈ bs, 0 ≤ z ∧ z < 256
theorem BOk.get {bs : List Int} (h : BOk bs) (i : Nat) : 0 ≤ bs.getD i 0 ∧ bs.getD i 0 < 256 := by
  rw [List.getD_eq_getElem?_getD]
  cases hg : bs[i]? with
  | none => simp
  | some z => exact h z (List.mem_of_getElem? hg)
theorem drop_cons {bs : List Int} {p : Nat} (h : p < bs.length) : bs.drop p = bs.getD p 0 :: bs.drop (p + 1) := by
  rw [List.drop_eq_getElem_cons h, List.getD_eq_getElem?_getD, List.getElem?_eq_getElem h]
  rfl
theorem drop_is {bs rest : List Int} {x : Int} {p : Nat} (h : bs.drop p = x :: rest) : p < bs.length ∧ bs.getD p 0 = x ∧ bs.drop (p + 1) = rest := by
  have hl : p < bs.length := by
    rcases Nat.lt_or_ge p bs.length with h1 | h1
    · exact h1
    · rw [List.drop_eq_nil_of_le h1] at h; cases h
  rw [drop_cons hl] at h
  injection h with h1 h2
  exact ⟨hl, h1, h2⟩
theorem pow7 (i : Nat) : 2 ^ (7 * (i + 1)) = 128 * 2 ^ (7 * i) := by
  rw [show 7 * (i + 1) = 7 + 7 * i by omega, Nat.pow_add]
/-- What was written is read. -/
theorem dU_enc (bs rest : List Int) : ∀ (f n p i acc : Nat), i + f = 10 → 1 ≤ f → n < 128 ^ f → (i = 9 → n ≤ 1) → n * 2 ^ (7 * i) < 18446744073709551616 → (0 < i → 0 < n) → bs.drop p = encF f n ++ rest →
    dU bs f p i acc = some (acc + n * 2 ^ (7 * i), p + (encF f n).length)
  | 0, _, _, _, _, _, h, _, _, _, _, _ => by omega
  | f + 1, n, p, i, acc, hi, _, hn, h9, hb, h0, hd => by
    unfold encF at hd ⊢
    unfold dU
    by_cases hn1 : n < 128
    · rw [if_pos hn1] at hd ⊢
      obtain ⟨h1, h2, h3⟩ := drop_is hd
      rw [h2, if_neg (by omega)]
      simp only [Int.toNat_natCast]
      rw [if_neg (by rintro (⟨a, b⟩ | ⟨a, b⟩); · have := h9 a; omega
                     · have := h0 a; omega), if_pos hn1]
      rfl
    · rw [if_neg hn1] at hd ⊢
      obtain ⟨h1, h2, h3⟩ := drop_is hd
      have hi8 : i ≠ 9 := fun h => by have := h9 h; omega
      have hf : 1 ≤ f := by omega
      have hp := pow7 i
      rw [h2, if_neg (by omega)]
      simp only [Int.toNat_natCast]
      rw [if_neg (by rintro (⟨a, b⟩ | ⟨a, b⟩) <;> omega), if_neg (by omega), show (n % 128 + 128) % 128 = n % 128 by omega]
      have hdm : n = 128 * (n / 128) + n % 128 := by omega
      have hmul : n * 2 ^ (7 * i) = n / 128 * 2 ^ (7 * (i + 1)) + n % 128 * 2 ^ (7 * i) := by
        rw [hp]
        conv => { lhs; rw [hdm] }
        rw [Nat.add_mul, Nat.mul_comm 128 (n / 128), Nat.mul_assoc]
      have hlt : n / 128 < 128 ^ f := by
        rw [Nat.pow_succ] at hn
        exact Nat.div_lt_of_lt_mul (by rw [Nat.mul_comm]; exact hn)
      have hb2 : n / 128 * 2 ^ (7 * (i + 1)) < 18446744073709551616 := Nat.lt_of_le_of_lt (Nat.le_add_right _ _) (hmul ▸ hb)
      have hrec := dU_enc bs rest f (n / 128) (p + 1) (i + 1) (acc + n % 128 * 2 ^ (7 * i)) (by omega) hf hlt (fun h => by
        rw [h] at hb2
        have e : (2 : Nat) ^ (7 * 9) = 9223372036854775808 := by decide
        rw [e] at hb2
        omega) hb2 (fun _ => by omega) h3
      rw [hrec]
      refine congrArg some (Prod.ext ?_ ?_)
      · show _ + _ = _ + _
        rw [hmul]
        omega
      · show _ + _ = _ + _
        simp only [List.length_cons]
        omega
theorem le_of_mul_lt {n M K : Nat} (hM : 0 < M) (h : n * M < K * M) : n + 1 ≤ K := Nat.lt_of_mul_lt_mul_right h
/-- What is read was written so. -/
theorem dU_inv (bs : List Int) (hb : BOk bs) : ∀ (f p i acc v q : Nat), i + f = 10 → dU bs f p i acc = some (v, q) →
    ∃ n, v = acc + n * 2 ^ (7 * i) ∧ n * 2 ^ (7 * i) < 18446744073709551616 ∧ (0 < i → 0 < n) ∧ p < q ∧ q ≤ bs.length ∧ bs.drop p = encF f n ++ bs.drop q
  | 0, _, _, _, _, _, _, h => by cases h
  | f + 1, p, i, acc, v, q, hi, h => by
    unfold dU at h
    by_cases h1 : bs.length ≤ p
    · rw [if_pos h1] at h; cases h
    rw [if_neg h1] at h
    have hg := hb.get p
    have hdr := drop_cons (bs := bs) (p := p) (by omega)
    obtain ⟨c, hc⟩ : ∃ c : Nat, bs.getD p 0 = (c : Int) := ⟨(bs.getD p 0).toNat, by omega⟩
    rw [hc] at h hg hdr
    simp only [Int.toNat_natCast] at h
    by_cases h2 : (i = 9 ∧ 1 < c) ∨ (0 < i ∧ c = 0)
    · rw [if_pos h2] at h; cases h
    rw [if_neg h2] at h
    have hi9 : i ≤ 9 := by omega
    have hpw : i ≤ 8 → 2 ^ (7 * i) ≤ 72057594037927936 := fun h => by
      have : 2 ^ (7 * i) ≤ 2 ^ (7 * 8) := Nat.pow_le_pow_right (by decide) (by omega)
      simpa using this
    by_cases h3 : c < 128
    · rw [if_pos h3] at h
      simp only [Option.some.injEq, Prod.mk.injEq] at h
      obtain ⟨rfl, rfl⟩ := h
      refine ⟨c, rfl, ?_, fun h => by omega, by omega, by omega, ?_⟩
      · by_cases h9 : i = 9
        · subst h9
          have e : (2 : Nat) ^ (7 * 9) = 9223372036854775808 := by decide
          rw [e]
          omega
        · have h5 := hpw (by omega)
          have h6 : c * 2 ^ (7 * i) ≤ 127 * 2 ^ (7 * i) := Nat.mul_le_mul_right _ (by omega)
          have h7 : 127 * 2 ^ (7 * i) ≤ 127 * 72057594037927936 := Nat.mul_le_mul_left _ h5
          omega
      · rw [hdr]
        unfold encF
        rw [if_pos h3]
        rfl
    · rw [if_neg h3] at h
      have h9 : i ≠ 9 := by omega
      obtain ⟨n, e1, e2, e3, e4, e5, e6⟩ := dU_inv bs hb f (p + 1) (i + 1) _ v q (by omega) h
      have hp := pow7 i
      have hn := e3 (by omega)
      refine ⟨128 * n + c % 128, ?_, ?_, fun _ => by omega, by omega, e5, ?_⟩
      · rw [e1, hp, Nat.add_mul, Nat.mul_comm 128 n, Nat.mul_assoc]
        omega
      · rw [hp] at e2
        have hK : ∃ K, K * (128 * 2 ^ (7 * i)) = 18446744073709551616 := ⟨2 ^ (57 - 7 * i), by
          rw [show (128 : Nat) = 2 ^ 7 from rfl, ← Nat.pow_add, ← Nat.pow_add, show 57 - 7 * i + (7 + 7 * i) = 64 by omega]⟩
        obtain ⟨K, hK⟩ := hK
        have hpos : 0 < 128 * 2 ^ (7 * i) := Nat.mul_pos (by decide) (Nat.pow_pos (by decide))
        have hle := le_of_mul_lt (n := n) hpos (by rw [hK]; exact e2)
        have h8 : (n + 1) * (128 * 2 ^ (7 * i)) ≤ K * (128 * 2 ^ (7 * i)) := Nat.mul_le_mul_right _ hle
        rw [hK, Nat.add_mul, Nat.one_mul] at h8
        have h10 : c % 128 * 2 ^ (7 * i) < 128 * 2 ^ (7 * i) := Nat.mul_lt_mul_of_pos_right (by omega) (Nat.pow_pos (by decide))
        have h11 : 128 * n * 2 ^ (7 * i) = n * (128 * 2 ^ (7 * i)) := by rw [Nat.mul_comm 128 n, Nat.mul_assoc]
        rw [Nat.add_mul, h11]
        omega
      · rw [hdr, e6]
        conv => { rhs; unfold encF }
        rw [if_neg (by omega), show (128 * n + c % 128) / 128 = n by omega, show (128 * n + c % 128) % 128 + 128 = c by omega]
        rfl
theorem encF_len : ∀ (f n : Nat), (encF f n).length ≤ f
  | 0, _ => by simp [encF]
  | f + 1, n => by
    unfold encF
    split
    · simp
    · simp only [List.length_cons]
      have := encF_len f (n / 128)
      omega
theorem encF_pos (f n : Nat) : 1 ≤ (encF (f + 1) n).length := by
  unfold encF
  split <;> simp
theorem encF_ok : ∀ (f n : Nat), BOk (encF f n)
  | 0, _ => by simp [BOk, encF]
  | f + 1, n => by
    intro z hz
    unfold encF at hz
    split at hz
    · simp at hz
      omega
    · rcases List.mem_cons.1 hz with rfl | hz
      · omega
      · exact encF_ok f _ z hz

/-- The number that a code stands for. -/
def zz (v : Nat) : Int := if v % 2 = 0 then ((v / 2 : Nat) : Int) else -((v / 2 : Nat) : Int) - 1
theorem zz_two (n : Nat) : zz (2 * n) = n := by
  unfold zz
  rw [if_pos (by omega)]
  omega
theorem zz_nn {v : Nat} (h : 0 ≤ zz v) : v = 2 * (zz v).toNat := by
  unfold zz at *
  split at h
  · rename_i h1
    rw [if_pos h1]
    omega
  · omega
abbrev En := ByteArray × Int
def mkS (l : List Int) : ByteArray := ⟨(l.map (fun z => UInt8.ofNat z.toNat)).toArray⟩
theorem bI_mkS {l : List Int} (h : BOk l) : bI (mkS l) = l := by
  unfold bI mkS
  simp only [List.map_map]
  conv => { rhs; rw [← List.map_id l] }
  refine List.map_congr_left (fun z hz => ?_)
  have := h z hz
  simp only [Function.comp_apply, id]
  rw [UInt8.toNat_ofNat']
  omega
theorem mkS_bI (s : ByteArray) : mkS (bI s) = s := by
  unfold bI mkS
  simp only [List.map_map]
  have : s.data.toList.map ((fun z : Int => UInt8.ofNat z.toNat) ∘ fun b : UInt8 => (b.toNat : Int)) = s.data.toList := by
    conv => { rhs; rw [← List.map_id s.data.toList] }
    refine List.map_congr_left (fun b _ => ?_)
    simp
  rw [this]
theorem mkS_len (l : List Int) : (mkS l).size = l.length := by simp [mkS, ByteArray.size]
theorem bI_ok (s : ByteArray) : BOk (bI s) := by
  intro z hz
  unfold bI at hz
  obtain ⟨b, _, rfl⟩ := List.mem_map.1 hz
  have := b.toNat_lt
  omega
/-- The bytes of a string, and of an entry. -/
def encT (s : ByteArray) : List Int := encU s.size ++ bI s
def encI (n : Int) : List Int := encU (2 * n.toNat)
def encE (e : En) : List Int := encT e.1 ++ encI e.2
def encL (es : List En) : List Int := es.flatMap encE
/-- The bytes of a ledger. -/
def encLed (b : Int) (es : List En) : List Int := encI b ++ encI es.length ++ encL es
def dI (bs : List Int) (p : Nat) : Option (Int × Nat) := (dU bs 10 p 0 0).map fun x => (zz x.1, x.2)
def dT (bs : List Int) (p : Nat) : Option (List Int × Nat) := (dU bs 10 p 0 0).bind fun x => if bs.length - x.2 < x.1 then none else some ((bs.drop x.2).take x.1, x.2 + x.1)
def dE (bs : List Int) (p : Nat) (left : Int) : Option (En × Nat) :=
  (dT bs p).bind fun x => (dI bs x.2).bind fun y => if y.1 < 0 ∨ x.1.length < 1 ∨ 16 < x.1.length ∨ left < y.1 then none else some ((mkS x.1, y.1), y.2)
def dL (bs : List Int) : Nat → Nat → Int → Option (List En)
  | 0, p, _ => if p < bs.length then none else some []
  | k + 1, p, left => (dE bs p left).bind fun x => (dL bs k x.2 (left - x.1.2)).map fun r => x.1 :: r
def dLed (bs : List Int) : Option (Int × List En) :=
  (dI bs 0).bind fun x => if x.1 < 0 ∨ 2147483648 < x.1 then none else (dI bs x.2).bind fun y => if y.1 < 0 then none else (dL bs y.1.toNat y.2 x.1).map fun r => (x.1, r)
/-- Entries that could be spent one by one of what is left. -/
def canB : Int → List En → Prop
  | _, [] => True
  | left, e :: r => 0 ≤ e.2 ∧ 1 ≤ e.1.size ∧ e.1.size ≤ 16 ∧ e.2 ≤ left ∧ canB (left - e.2) r
def sumE : List En → Int
  | [] => 0
  | e :: r => e.2 + sumE r
theorem canB_sum : ∀ {left : Int} {es : List En}, 0 ≤ left → canB left es → 0 ≤ sumE es ∧ sumE es ≤ left
  | left, [], h0, _ => by simp only [sumE]; omega
  | left, e :: r, h0, h => by
    obtain ⟨h1, h2, h3, h4, h5⟩ := h
    have := canB_sum (left := left - e.2) (by omega) h5
    simp only [sumE]
    omega
theorem dI_enc {bs rest : List Int} {p : Nat} {n : Int} (h0 : 0 ≤ n) (h1 : n ≤ 4294967296) (h : bs.drop p = encI n ++ rest) : dI bs p = some (n, p + (encI n).length) := by
  unfold dI
  unfold encI encU at *
  rw [dU_enc bs rest 10 _ p 0 0 rfl (by decide) (by have : (128 : Nat) ^ 10 = 1180591620717411303424 := by decide
                                                    omega) (by omega) (by simp; omega) (by omega) h]
  simp only [Option.map_some, Nat.mul_zero, Nat.pow_zero, Nat.mul_one, Nat.zero_add, zz_two]
  rw [show ((n.toNat : Nat) : Int) = n by omega]
theorem dI_inv {bs : List Int} (hb : BOk bs) {p q : Nat} {n : Int} (h : dI bs p = some (n, q)) (h0 : 0 ≤ n) : bs.drop p = encI n ++ bs.drop q ∧ p < q ∧ q ≤ bs.length := by
  unfold dI at h
  rw [Option.map_eq_some_iff] at h
  obtain ⟨⟨v, q'⟩, h1, h2⟩ := h
  simp only [Prod.mk.injEq] at h2
  obtain ⟨h2, rfl⟩ := h2
  obtain ⟨m, e1, e2, _, e4, e5, e6⟩ := dU_inv bs hb 10 p 0 0 v q' rfl h1
  simp only [Nat.mul_zero, Nat.pow_zero, Nat.mul_one, Nat.zero_add] at e1
  subst e1
  have := zz_nn (v := v) (by rw [h2]; exact h0)
  rw [h2] at this
  unfold encI encU
  rw [← this]
  exact ⟨e6, e4, e5⟩
theorem drop_app {bs a rest : List Int} {p : Nat} (h : bs.drop p = a ++ rest) : bs.drop (p + a.length) = rest := by
  rw [← List.drop_drop, h, List.drop_left]
theorem len_app {bs a rest : List Int} {p : Nat} (h : bs.drop p = a ++ rest) : a.length + rest.length = bs.length - p := by
  have := congrArg List.length h
  simpa using this.symm
theorem dT_enc {bs rest : List Int} {p : Nat} {s : ByteArray} (hs : s.size ≤ 1000) (h : bs.drop p = encT s ++ rest) : dT bs p = some (bI s, p + (encT s).length) := by
  unfold dT
  unfold encT encU at *
  rw [List.append_assoc] at h
  rw [dU_enc bs _ 10 _ p 0 0 rfl (by decide) (by have : (128 : Nat) ^ 10 = 1180591620717411303424 := by decide
                                                 omega) (by omega) (by simp; omega) (by omega) h]
  have h2 := drop_app h
  have h3 := len_app h2
  rw [bI_len] at h3
  simp only [Option.bind_some, Nat.mul_zero, Nat.pow_zero, Nat.mul_one, Nat.zero_add]
  rw [if_neg (by omega), h2, ← bI_len s, List.take_left, List.length_append, bI_len]
  rw [show p + (encF 10 s.size).length + s.size = p + ((encF 10 s.size).length + s.size) by omega]
theorem take_drop_split (bs : List Int) (q n : Nat) : bs.drop q = (bs.drop q).take n ++ bs.drop (q + n) := by
  rw [← List.drop_drop, List.take_append_drop]
theorem dT_inv {bs : List Int} (hb : BOk bs) {p q : Nat} {l : List Int} (h : dT bs p = some (l, q)) : bs.drop p = encT (mkS l) ++ bs.drop q ∧ p < q ∧ q ≤ bs.length ∧ BOk l := by
  unfold dT at h
  rw [Option.bind_eq_some_iff] at h
  obtain ⟨⟨v, q'⟩, h1, h2⟩ := h
  simp only at h2
  split at h2
  · cases h2
  rename_i hv
  simp only [Option.some.injEq, Prod.mk.injEq] at h2
  obtain ⟨rfl, rfl⟩ := h2
  obtain ⟨m, e1, e2, _, e4, e5, e6⟩ := dU_inv bs hb 10 p 0 0 v q' rfl h1
  simp only [Nat.mul_zero, Nat.pow_zero, Nat.mul_one, Nat.zero_add] at e1
  subst e1
  have hl : ((bs.drop q').take v).length = v := by simp; omega
  have hok : BOk ((bs.drop q').take v) := fun z hz => hb z (List.mem_of_mem_drop (List.mem_of_mem_take hz))
  refine ⟨?_, by omega, by omega, hok⟩
  unfold encT encU
  rw [mkS_len, hl, bI_mkS hok, e6, List.append_assoc, ← take_drop_split]
theorem dE_enc {bs rest : List Int} {p : Nat} {e : En} {left : Int} (hl : left ≤ 4294967296) (h1 : 0 ≤ e.2) (h2 : 1 ≤ e.1.size) (h3 : e.1.size ≤ 16) (h4 : e.2 ≤ left) (h : bs.drop p = encE e ++ rest) : dE bs p left = some (e, p + (encE e).length) := by
  unfold dE encE at *
  rw [List.append_assoc] at h
  rw [dT_enc (by omega) h]
  simp only [Option.bind_some]
  rw [dI_enc h1 (by omega) (drop_app h)]
  simp only [Option.bind_some, bI_len, mkS_bI, List.length_append]
  rw [if_neg (by omega), Nat.add_assoc]
theorem dE_inv {bs : List Int} (hb : BOk bs) {p q : Nat} {e : En} {left : Int} (h : dE bs p left = some (e, q)) : bs.drop p = encE e ++ bs.drop q ∧ p < q ∧ q ≤ bs.length ∧ 0 ≤ e.2 ∧ 1 ≤ e.1.size ∧ e.1.size ≤ 16 ∧ e.2 ≤ left := by
  unfold dE at h
  rw [Option.bind_eq_some_iff] at h
  obtain ⟨⟨l, r⟩, h1, h⟩ := h
  rw [Option.bind_eq_some_iff] at h
  obtain ⟨⟨c, q'⟩, h2, h⟩ := h
  simp only at h h2
  split at h
  · cases h
  rename_i hc
  simp only [Option.some.injEq, Prod.mk.injEq] at h
  obtain ⟨rfl, rfl⟩ := h
  obtain ⟨a1, a2, a3, a4⟩ := dT_inv hb h1
  obtain ⟨b1, b2, b3⟩ := dI_inv hb h2 (by omega)
  simp only [mkS_len]
  refine ⟨?_, by omega, b3, by omega, by omega, by omega, by omega⟩
  unfold encE
  rw [a1, b1, List.append_assoc]
theorem dL_enc {bs : List Int} : ∀ (es : List En) (p : Nat) (left : Int), left ≤ 4294967296 → canB left es → bs.drop p = encL es → dL bs es.length p left = some es
  | [], p, left, _, _, h => by
    have : bs.length ≤ p := List.drop_eq_nil_iff.1 h
    simp only [List.length_nil, dL]
    rw [if_neg (by omega)]
  | e :: r, p, left, hl, hc, h => by
    obtain ⟨h1, h2, h3, h4, h5⟩ := hc
    have h' : bs.drop p = encE e ++ encL r := by rw [h]; rfl
    simp only [List.length_cons, dL]
    rw [dE_enc hl h1 h2 h3 h4 h']
    simp only [Option.bind_some]
    rw [dL_enc r _ _ (by omega) h5 (drop_app h')]
    rfl
theorem dL_inv {bs : List Int} (hb : BOk bs) : ∀ (k p : Nat) (left : Int) (es : List En), dL bs k p left = some es → bs.drop p = encL es ∧ es.length = k ∧ canB left es
  | 0, p, left, es, h => by
    unfold dL at h
    split at h
    · cases h
    · rename_i h1
      simp only [Option.some.injEq] at h
      subst h
      exact ⟨List.drop_eq_nil_of_le (by omega), rfl, trivial⟩
  | k + 1, p, left, es, h => by
    unfold dL at h
    rw [Option.bind_eq_some_iff] at h
    obtain ⟨⟨e, q⟩, h1, h⟩ := h
    rw [Option.map_eq_some_iff] at h
    obtain ⟨r, h2, rfl⟩ := h
    obtain ⟨a1, a2, a3, a4, a5, a6, a7⟩ := dE_inv hb h1
    obtain ⟨b1, b2, b3⟩ := dL_inv hb k q _ r h2
    simp only at b1 b3
    refine ⟨?_, by simp [b2], a4, a5, a6, a7, b3⟩
    rw [a1, b1]
    rfl
/-- What Encode wrote, Decode reads. -/
theorem dLed_enc {b : Int} {es : List En} (h0 : 0 ≤ b) (h1 : b ≤ 2147483648) (hl : es.length ≤ 4294967296) (hc : canB b es) : dLed (encLed b es) = some (b, es) := by
  have h : (encLed b es).drop 0 = encI b ++ (encI es.length ++ encL es) := by simp [encLed]
  have h2 := drop_app h
  have h3 := drop_app h2
  unfold dLed
  rw [dI_enc h0 (by omega) h]
  simp only [Option.bind_some]
  rw [if_neg (by omega), dI_enc (by omega) (by omega) h2]
  simp only [Option.bind_some]
  rw [if_neg (by omega), Int.toNat_natCast, dL_enc es _ b (by omega) hc h3]
  rfl
/-- What Decode reads is what Encode writes. -/
theorem dLed_inv {bs : List Int} (hb : BOk bs) {b : Int} {es : List En} (h : dLed bs = some (b, es)) : 0 ≤ b ∧ b ≤ 2147483648 ∧ canB b es ∧ encLed b es = bs := by
  unfold dLed at h
  rw [Option.bind_eq_some_iff] at h
  obtain ⟨⟨b', p⟩, h1, h⟩ := h
  simp only at h
  split at h
  · cases h
  rename_i hb'
  rw [Option.bind_eq_some_iff] at h
  obtain ⟨⟨n, q⟩, h2, h⟩ := h
  simp only at h
  split at h
  · cases h
  rename_i hn
  rw [Option.map_eq_some_iff] at h
  obtain ⟨r, h3, h⟩ := h
  simp only [Prod.mk.injEq] at h
  obtain ⟨rfl, rfl⟩ := h
  obtain ⟨a1, a2, a3⟩ := dI_inv hb h1 (by omega)
  obtain ⟨b1, b2, b3⟩ := dI_inv hb h2 (by omega)
  obtain ⟨c1, c2, c3⟩ := dL_inv hb _ _ _ _ h3
  refine ⟨by omega, by omega, c3, ?_⟩
  unfold encLed
  rw [show ((r.length : Nat) : Int) = n by omega, ← c1, List.append_assoc, ← b1, ← a1, List.drop_zero]
theorem encL_len : ∀ {left : Int} (es : List En), canB left es → 3 * es.length ≤ (encL es).length ∧ (encL es).length ≤ 36 * es.length
  | _, [], _ => by simp [encL]
  | left, e :: r, h => by
    obtain ⟨h1, h2, h3, h4, h5⟩ := h
    have ih := encL_len r h5
    have e1 : encL (e :: r) = encE e ++ encL r := rfl
    have p1 : 1 ≤ (encF 10 e.1.size).length := encF_pos 9 e.1.size
    have p2 := encF_len 10 e.1.size
    have p3 : 1 ≤ (encF 10 (2 * e.2.toNat)).length := encF_pos 9 (2 * e.2.toNat)
    have p4 := encF_len 10 (2 * e.2.toNat)
    rw [e1]
    simp only [List.length_append, encE, encT, encI, encU, bI_len, List.length_cons] at *
    omega
theorem BOk.app {a b : List Int} (h1 : BOk a) (h2 : BOk b) : BOk (a ++ b) := fun z hz => (List.mem_append.1 hz).elim (h1 z) (h2 z)
theorem encL_ok (es : List En) : BOk (encL es) := by
  intro z hz
  unfold encL at hz
  obtain ⟨e, _, hz⟩ := List.mem_flatMap.1 hz
  exact (((encF_ok 10 _).app (bI_ok _)).app (encF_ok 10 _)) z hz
theorem encLed_ok (b : Int) (es : List En) : BOk (encLed b es) := ((encF_ok 10 _).app (encF_ok 10 _)).app (encL_ok es)
end Go.Proofs.Ytebfhljamoapjaa
