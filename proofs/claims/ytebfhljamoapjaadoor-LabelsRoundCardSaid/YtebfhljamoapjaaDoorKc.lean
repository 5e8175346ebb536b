
/- Label sets: the generators, walked. -/
import Derived.Test.YtebfhljamoapjaaDoorKb
namespace Go.Proofs.YtebfhljamoapjaaDoor
open Go.RowKit
set_option linter.unusedVariables false
set_option linter.unusedSimpArgs false

/-- A string as an element. -/
def ofS (cs : List Value) : Option ByteArray :=
  match cs with
  | [.string s] => some s
  | _ => none
theorem ofS_law (cs : List Value) (x : ByteArray) (h : ofS cs = some x) : [Value.string x] = cs := by
  unfold ofS at h
  split at h
  · simp at h
    subst h
    rfl
  · cases h
def rS : RowS ByteArray := { cols := [fun s => .string s], d := ByteArray.empty, of := ofS, law := fun cs x h => ofS_law cs x h, one := fun x f hf => by simp at hf; subst hf; rfl }
/-- A matcher. -/
structure Mt where
  n : ByteArray
  k : Int
  v : ByteArray
def mt0 : Mt := ⟨ByteArray.empty, 0, ByteArray.empty⟩
def ofM (cs : List Value) : Option Mt :=
  match cs with
  | [.string n, .int .i64 k, .string v] => some ⟨n, k, v⟩
  | _ => none
theorem ofM_law (cs : List Value) (x : Mt) (h : ofM cs = some x) : [Value.string x.n, Value.int .i64 x.k, Value.string x.v] = cs := by
  unfold ofM at h
  split at h
  · simp at h
    subst h
    rfl
  · cases h
def rM : RowS Mt := { cols := [fun m => .string m.n, fun m => .int .i64 m.k, fun m => .string m.v], d := mt0, of := ofM, law := fun cs x h => ofM_law cs x h, one := fun x f hf => by simp at hf; rcases hf with rfl | rfl | rfl <;> rfl }

def namesL : List ByteArray := [⟨#[97]⟩, ⟨#[97, 98]⟩, ⟨#[98]⟩, ⟨#[106, 111, 98]⟩, ⟨#[120, 95, 49]⟩, ⟨#[122, 111, 110, 101]⟩]
def valuesL : List ByteArray := [⟨#[97]⟩, ⟨#[97, 98]⟩, ⟨#[98]⟩, ⟨#[120, 49]⟩, ⟨#[126, 33]⟩, ⟨#[48]⟩]
def namesD : List ByteArray := namesL ++ [⟨#[]⟩, ⟨#[65]⟩, ⟨#[49, 97]⟩, ⟨#[97, 45, 98]⟩, ⟨#[97, 98, 99, 100, 101, 102, 103, 104, 105, 106, 107, 108, 109, 110, 111, 112]⟩, ⟨#[97, 98, 99, 100, 101, 102, 103, 104, 105, 106, 107, 108, 109, 110, 111, 112, 113]⟩, ⟨#[99]⟩, ⟨#[100]⟩, ⟨#[101]⟩, ⟨#[95, 97]⟩]
def valuesD : List ByteArray := valuesL ++ [⟨#[]⟩, ⟨#[32]⟩, ⟨#[97, 44]⟩, ⟨#[97, 98, 99, 100, 101, 102, 103, 104, 105, 106, 107, 108, 109, 110, 111, 112]⟩, ⟨#[97, 98, 99, 100, 101, 102, 103, 104, 105, 106, 107, 108, 109, 110, 111, 112, 113]⟩, ⟨#[127]⟩, ⟨#[123]⟩, ⟨#[92]⟩]
def valuesM : List ByteArray := valuesL ++ [⟨#[]⟩, ⟨#[120]⟩]
theorem names_s (w : World) : Con Tryd.prog 18 #[] w (RetRows rS 9 w namesL) := by
  refine enter tabOk mixed Tryd.func18 rfl Tryd.ntmps18 Tryd.results18 [] (fun _ => none) [] 0 rfl rfl (hp0 _ _ _) ?_
  ((conv=>whnf);(repeat(refine And.intro ?_ ?_;(focus((first|omega|exact⟨rfl,True.intro⟩|exact⟨rfl,rfl,True.intro⟩|rfl|(simp only[List.length_set];first|omega|(refine⟨?_,?_⟩<;>omega)|(refine⟨?_,?_,?_⟩<;>omega))|(intro hg;(try simp only[bB]at hg);first|omega|(refine⟨?_,?_⟩<;>omega)|(refine⟨?_,?_,?_⟩<;>first|omega|(show _<_;(try simp only[List.length_set]);omega)|exact leT rfl))|(refine⟨?_,?_⟩<;>omega)|(refine⟨?_,?_,?_⟩<;>first|omega|(show _<_;(try simp only[List.length_set]);omega)|exact leT rfl)|(simp only[show rI.d=(0:Int)from rfl];omega));done));(conv=>whnf))))
  exact EvRet.rows_lit (R := rS) (ys := namesL) rfl (by decide) rfl (fun _ => rfl)
theorem values_s (w : World) : Con Tryd.prog 19 #[] w (RetRows rS 9 w valuesL) := by
  refine enter tabOk mixed Tryd.func19 rfl Tryd.ntmps19 Tryd.results19 [] (fun _ => none) [] 0 rfl rfl (hp0 _ _ _) ?_
  ((conv=>whnf);(repeat(refine And.intro ?_ ?_;(focus((first|omega|exact⟨rfl,True.intro⟩|exact⟨rfl,rfl,True.intro⟩|rfl|(simp only[List.length_set];first|omega|(refine⟨?_,?_⟩<;>omega)|(refine⟨?_,?_,?_⟩<;>omega))|(intro hg;(try simp only[bB]at hg);first|omega|(refine⟨?_,?_⟩<;>omega)|(refine⟨?_,?_,?_⟩<;>first|omega|(show _<_;(try simp only[List.length_set]);omega)|exact leT rfl))|(refine⟨?_,?_⟩<;>omega)|(refine⟨?_,?_,?_⟩<;>first|omega|(show _<_;(try simp only[List.length_set]);omega)|exact leT rfl)|(simp only[show rI.d=(0:Int)from rfl];omega));done));(conv=>whnf))))
  exact EvRet.rows_lit (R := rS) (ys := valuesL) rfl (by decide) rfl (fun _ => rfl)

/-- What is left of the choice, after i names. -/
def whichN (zs : List Int) : Nat → Int
  | 0 => pick zs 0 64
  | i + 1 => (whichN zs i).tdiv 2
def setE (zs : List Int) (i : Nat) : Lb := (namesL.getD i ByteArray.empty, valuesL.getD (pick zs (i + 1) 6).toNat ByteArray.empty)
/-- The first i names of a chosen set. -/
def setN (zs : List Int) : Nat → List Lb
  | 0 => []
  | i + 1 => if (whichN zs i).tmod 2 = 1 then setN zs i ++ [setE zs i] else setN zs i
def setL (zs : List Int) : List Lb := setN zs 6
theorem whichN_nn (zs : List Int) : ∀ i, 0 ≤ whichN zs i ∧ whichN zs i ≤ 64
  | 0 => ⟨pick_nn zs 0 64 (by decide), Int.le_of_lt (pick_lt zs 0 64 (by decide))⟩
  | i + 1 => by
    have := whichN_nn zs i
    unfold whichN
    rw [Int.tdiv_eq_ediv_of_nonneg this.1]
    omega
theorem setN_len (zs : List Int) : ∀ i, (setN zs i).length ≤ i
  | 0 => by simp [setN]
  | i + 1 => by
    have := setN_len zs i
    unfold setN
    split <;> simp <;> omega
set_option maxRecDepth 10000 in
theorem set_s (v : Value) (zs : List Int) (w : World) (h : Ints w v zs) : Con Tryd.prog 8 #[v] w (RetRows rL 42 w (setL zs)) := by
  obtain ⟨A1, c1, rfl, e1, e2⟩ := h.form
  refine enter tabOk mixed Tryd.func8 rfl Tryd.ntmps8 Tryd.results8 [.s 0 1 zs.length c1] (fun _ => A1) [⟨0, false, 3, 1, c1, .rows Int rI (zs)⟩] 1 rfl rfl (.ro (hp0 _ _ _) _ rfl rfl rfl (ro_ints h rfl _)) ?_
  ((conv=>whnf);(repeat(refine And.intro ?_ ?_;(focus((first|omega|exact⟨rfl,True.intro⟩|exact⟨rfl,rfl,True.intro⟩|rfl|(simp only[List.length_set];first|omega|(refine⟨?_,?_⟩<;>omega)|(refine⟨?_,?_,?_⟩<;>omega))|(intro hg;(try simp only[bB]at hg);first|omega|(refine⟨?_,?_⟩<;>omega)|(refine⟨?_,?_,?_⟩<;>first|omega|(show _<_;(try simp only[List.length_set]);omega)|exact leT rfl))|(refine⟨?_,?_⟩<;>omega)|(refine⟨?_,?_,?_⟩<;>first|omega|(show _<_;(try simp only[List.length_set]);omega)|exact leT rfl)|(simp only[show rI.d=(0:Int)from rfl];omega));done));(conv=>whnf))))
  refine EvCall.rows (R := rS) (ty := 9) (xs := namesL) Tryd.call18 (fun ρ W hp => names_s W) (fun ca ha1 ha2 => ?_)
  ((conv=>whnf);(repeat(refine And.intro ?_ ?_;(focus((first|omega|exact⟨rfl,True.intro⟩|exact⟨rfl,rfl,True.intro⟩|rfl|(simp only[List.length_set];first|omega|(refine⟨?_,?_⟩<;>omega)|(refine⟨?_,?_,?_⟩<;>omega))|(intro hg;(try simp only[bB]at hg);first|omega|(refine⟨?_,?_⟩<;>omega)|(refine⟨?_,?_,?_⟩<;>first|omega|(show _<_;(try simp only[List.length_set]);omega)|exact leT rfl))|(refine⟨?_,?_⟩<;>omega)|(refine⟨?_,?_,?_⟩<;>first|omega|(show _<_;(try simp only[List.length_set]);omega)|exact leT rfl)|(simp only[show rI.d=(0:Int)from rfl];omega));done));(conv=>whnf))))
  refine EvCall.rows (R := rS) (ty := 9) (xs := valuesL) Tryd.call19 (fun ρ W hp => values_s W) (fun cb hb1 hb2 => ?_)
  ((conv=>whnf);(repeat(refine And.intro ?_ ?_;(focus((first|omega|exact⟨rfl,True.intro⟩|exact⟨rfl,rfl,True.intro⟩|rfl|(simp only[List.length_set];first|omega|(refine⟨?_,?_⟩<;>omega)|(refine⟨?_,?_,?_⟩<;>omega))|(intro hg;(try simp only[bB]at hg);first|omega|(refine⟨?_,?_⟩<;>omega)|(refine⟨?_,?_,?_⟩<;>first|omega|(show _<_;(try simp only[List.length_set]);omega)|exact leT rfl))|(refine⟨?_,?_⟩<;>omega)|(refine⟨?_,?_,?_⟩<;>first|omega|(show _<_;(try simp only[List.length_set]);omega)|exact leT rfl)|(simp only[show rI.d=(0:Int)from rfl];omega));done));(conv=>whnf))))
  refine EvCall.plain Tryd.call20 (.v (.int .i64 (pick zs 0 64))) rfl (fun ρ W hp => pick_s _ zs 0 64 W (hp.ints (n := 0) rfl e1 e2 h.2) (by decide) (by decide) (by decide)) ?_
  ((conv=>whnf);(repeat(refine And.intro ?_ ?_;(focus((first|omega|exact⟨rfl,True.intro⟩|exact⟨rfl,rfl,True.intro⟩|rfl|(simp only[List.length_set];first|omega|(refine⟨?_,?_⟩<;>omega)|(refine⟨?_,?_,?_⟩<;>omega))|(intro hg;(try simp only[bB]at hg);first|omega|(refine⟨?_,?_⟩<;>omega)|(refine⟨?_,?_,?_⟩<;>first|omega|(show _<_;(try simp only[List.length_set]);omega)|exact leT rfl))|(refine⟨?_,?_⟩<;>omega)|(refine⟨?_,?_,?_⟩<;>first|omega|(show _<_;(try simp only[List.length_set]);omega)|exact leT rfl)|(simp only[show rI.d=(0:Int)from rfl];omega));done));(conv=>whnf))))
  refine EvLoop.inv (α := Nat × Nat) (fun p => p.1 ≤ 6 ∧ (setN zs p.1).length ≤ p.2 ∧ p.2 ≤ 9223372036854775807) (fun p => 6 - p.1) (fun p => [(7, [], .v (.int .i64 ((p.1 : Int)))), (6, [], .s 3 2 (setN zs p.1).length p.2), (5, [], .v (.int .i64 (whichN zs p.1))), (4, [], .s 2 1 6 cb), (3, [], .s 1 1 6 ca), (0, [], .s 0 1 zs.length c1)])
    (fun p => [⟨3, true, 42, 2, p.2, .rows Lb rL (setN zs p.1)⟩, ⟨2, true, 9, 1, cb, .rows ByteArray rS valuesL⟩, ⟨1, true, 9, 1, ca, .rows ByteArray rS namesL⟩, ⟨0, false, 3, 1, c1, .rows Int rI zs⟩]) 4 (0, 0) ⟨by decide, by simp [setN], by decide⟩ (Sub.of [] [3] rfl ?_) ?_
  · ((repeat' (refine And.intro ?_ ?_)) <;> first | rfl | exact True.intro | omega)
  intro p ⟨hi1, hi2, hi3⟩
  have hw := whichN_nn zs p.1
  have hsl := setN_len zs p.1
  have hdv : 0 ≤ (whichN zs p.1).tdiv 2 ∧ (whichN zs p.1).tdiv 2 ≤ 64 := whichN_nn zs (p.1 + 1)
  have hn6 : namesL.length = 6 := rfl
  have hv6 : valuesL.length = 6 := rfl
  ((conv=>whnf);(repeat(refine And.intro ?_ ?_;(focus((first|omega|exact⟨rfl,True.intro⟩|exact⟨rfl,rfl,True.intro⟩|rfl|(simp only[List.length_set];first|omega|(refine⟨?_,?_⟩<;>omega)|(refine⟨?_,?_,?_⟩<;>omega))|(intro hg;(try simp only[bB]at hg);first|omega|(refine⟨?_,?_⟩<;>omega)|(refine⟨?_,?_,?_⟩<;>first|omega|(show _<_;(try simp only[List.length_set]);omega)|exact leT rfl))|(refine⟨?_,?_⟩<;>omega)|(refine⟨?_,?_,?_⟩<;>first|omega|(show _<_;(try simp only[List.length_set]);omega)|exact leT rfl)|(simp only[show rI.d=(0:Int)from rfl];omega));done));(conv=>whnf))))
  refine EvIf.split (fun g1 => ?_) (fun g1 => ?_)
  · simp only [decide_eq_true_eq] at g1
    have g1' : p.1 < 6 := by
      have : (p.1 : Int) < 6 := g1
      omega
    ((conv=>whnf);(repeat(refine And.intro ?_ ?_;(focus((first|omega|exact⟨rfl,True.intro⟩|exact⟨rfl,rfl,True.intro⟩|rfl|(simp only[List.length_set];first|omega|(refine⟨?_,?_⟩<;>omega)|(refine⟨?_,?_,?_⟩<;>omega))|(intro hg;(try simp only[bB]at hg);first|omega|(refine⟨?_,?_⟩<;>omega)|(refine⟨?_,?_,?_⟩<;>first|omega|(show _<_;(try simp only[List.length_set]);omega)|exact leT rfl))|(refine⟨?_,?_⟩<;>omega)|(refine⟨?_,?_,?_⟩<;>first|omega|(show _<_;(try simp only[List.length_set]);omega)|exact leT rfl)|(simp only[show rI.d=(0:Int)from rfl];omega));done));(conv=>whnf))))
    refine EvIf.split (fun g2 => ?_) (fun g2 => ?_)
    · simp only [decide_eq_true_eq] at g2
      have hst : setN zs (p.1 + 1) = setN zs p.1 ++ [setE zs p.1] := by
        show (if _ then _ else _) = _
        rw [if_pos g2]
      have hpk := pick_nn zs (p.1 + 1) 6 (by decide)
      have hpl := pick_lt zs (p.1 + 1) 6 (by decide)
      ((conv=>whnf);(repeat(refine And.intro ?_ ?_;(focus((first|omega|exact⟨rfl,True.intro⟩|exact⟨rfl,rfl,True.intro⟩|rfl|(simp only[List.length_set];first|omega|(refine⟨?_,?_⟩<;>omega)|(refine⟨?_,?_,?_⟩<;>omega))|(intro hg;(try simp only[bB]at hg);first|omega|(refine⟨?_,?_⟩<;>omega)|(refine⟨?_,?_,?_⟩<;>first|omega|(show _<_;(try simp only[List.length_set]);omega)|exact leT rfl))|(refine⟨?_,?_⟩<;>omega)|(refine⟨?_,?_,?_⟩<;>first|omega|(show _<_;(try simp only[List.length_set]);omega)|exact leT rfl)|(simp only[show rI.d=(0:Int)from rfl];omega));done));(conv=>whnf))))
      (refine EvDraw.one (.q 0 (.q 1 (.q 2 (.q 3 (.q 4 (.q 5 (.q 6 (.q 7 (.q 8 (.n 9 false (.q 10 (.q 11 (.q 12 (.n 13 false (.n 14 true (.q 15 (.z)) (.e)) (.e))))) (.e))))))))))) (by kernel_rfl) ?_)
      ((conv=>whnf);(repeat(refine And.intro ?_ ?_;(focus((first|omega|exact⟨rfl,True.intro⟩|exact⟨rfl,rfl,True.intro⟩|rfl|(simp only[List.length_set];first|omega|(refine⟨?_,?_⟩<;>omega)|(refine⟨?_,?_,?_⟩<;>omega))|(intro hg;(try simp only[bB]at hg);first|omega|(refine⟨?_,?_⟩<;>omega)|(refine⟨?_,?_,?_⟩<;>first|omega|(show _<_;(try simp only[List.length_set]);omega)|exact leT rfl))|(refine⟨?_,?_⟩<;>omega)|(refine⟨?_,?_,?_⟩<;>first|omega|(show _<_;(try simp only[List.length_set]);omega)|exact leT rfl)|(simp only[show rI.d=(0:Int)from rfl];omega));done));(conv=>whnf))))
      refine EvCall.plain Tryd.call20 (.v (.int .i64 (pick zs (p.1 + 1) 6))) rfl (fun ρ W hp => by
        have := pick_s (den ρ (.s 0 1 zs.length c1)) zs ((p.1 : Int) + 1) 6 W (hp.ints (n := 0) rfl e1 e2 h.2) (by decide) (by decide) (by omega)
        rw [show ((p.1 : Int) + 1).toNat = p.1 + 1 by omega] at this
        exact this) ?_
      ((conv=>whnf);(repeat(refine And.intro ?_ ?_;(focus((first|omega|exact⟨rfl,True.intro⟩|exact⟨rfl,rfl,True.intro⟩|rfl|(simp only[List.length_set];first|omega|(refine⟨?_,?_⟩<;>omega)|(refine⟨?_,?_,?_⟩<;>omega))|(intro hg;(try simp only[bB]at hg);first|omega|(refine⟨?_,?_⟩<;>omega)|(refine⟨?_,?_,?_⟩<;>first|omega|(show _<_;(try simp only[List.length_set]);omega)|exact leT rfl))|(refine⟨?_,?_⟩<;>omega)|(refine⟨?_,?_,?_⟩<;>first|omega|(show _<_;(try simp only[List.length_set]);omega)|exact leT rfl)|(simp only[show rI.d=(0:Int)from rfl];omega));done));(conv=>whnf))))
      refine EvBi.append (R := rL) tyok25 rfl tyok42 rfl (by decide) rfl rfl rfl hi2 [setE zs p.1] (fun ρ W hp => hp.lit (R := rL) (ys := [setE zs p.1]) rfl (by decide) (by simp) (by omega) rfl) (by show (_ + 1) * 32 ≤ _; omega) (by show _ + 1 ≤ _; omega) (fun cap' hq1 hq2 => ?_)
      have hla : (setN zs (p.1 + 1)).length = (setN zs p.1).length + 1 := by rw [hst, List.length_append]; rfl
      rw [← hst]
      ((conv=>whnf);(repeat(refine And.intro ?_ ?_;(focus((first|omega|exact⟨rfl,True.intro⟩|exact⟨rfl,rfl,True.intro⟩|rfl|(simp only[List.length_set];first|omega|(refine⟨?_,?_⟩<;>omega)|(refine⟨?_,?_,?_⟩<;>omega))|(intro hg;(try simp only[bB]at hg);first|omega|(refine⟨?_,?_⟩<;>omega)|(refine⟨?_,?_,?_⟩<;>first|omega|(show _<_;(try simp only[List.length_set]);omega)|exact leT rfl))|(refine⟨?_,?_⟩<;>omega)|(refine⟨?_,?_,?_⟩<;>first|omega|(show _<_;(try simp only[List.length_set]);omega)|exact leT rfl)|(simp only[show rI.d=(0:Int)from rfl];omega));done));(conv=>whnf))))
      refine LoopI.back (p.1 + 1, cap') ⟨g1', by rw [hla]; exact hq1, hq2⟩ (by show 6 - (p.1 + 1) < 6 - p.1; omega) (Sub.of [(3, 5)] [] rfl ?_)
      (repeat' (refine And.intro ?_ ?_)) <;> first | rfl | exact True.intro | exact hla | exact hla.symm | omega
    · simp only [decide_eq_false_iff_not] at g2
      have hst : setN zs (p.1 + 1) = setN zs p.1 := by
        show (if _ then _ else _) = _
        rw [if_neg g2]
      ((conv=>whnf);(repeat(refine And.intro ?_ ?_;(focus((first|omega|exact⟨rfl,True.intro⟩|exact⟨rfl,rfl,True.intro⟩|rfl|(simp only[List.length_set];first|omega|(refine⟨?_,?_⟩<;>omega)|(refine⟨?_,?_,?_⟩<;>omega))|(intro hg;(try simp only[bB]at hg);first|omega|(refine⟨?_,?_⟩<;>omega)|(refine⟨?_,?_,?_⟩<;>first|omega|(show _<_;(try simp only[List.length_set]);omega)|exact leT rfl))|(refine⟨?_,?_⟩<;>omega)|(refine⟨?_,?_,?_⟩<;>first|omega|(show _<_;(try simp only[List.length_set]);omega)|exact leT rfl)|(simp only[show rI.d=(0:Int)from rfl];omega));done));(conv=>whnf))))
      refine LoopI.back (p.1 + 1, p.2) ⟨g1', by rw [hst]; exact hi2, hi3⟩ (by show 6 - (p.1 + 1) < 6 - p.1; omega) (Sub.of [] [] rfl ?_)
      have hsl2 : (setN zs (p.1 + 1)).length = (setN zs p.1).length := by rw [hst]
      (repeat' (refine And.intro ?_ ?_)) <;> first | rfl | exact True.intro | exact hsl2 | exact hsl2.symm | exact congrArg (Ct.rows Lb rL) hst | exact congrArg (Ct.rows Lb rL) hst.symm | omega
  · simp only [decide_eq_false_iff_not] at g1
    obtain ⟨i, cp⟩ := p
    obtain rfl : i = 6 := by
      have : ¬ (i : Int) < 6 := g1
      simp only at hi1
      omega
    ((conv=>whnf);(repeat(refine And.intro ?_ ?_;(focus((first|omega|exact⟨rfl,True.intro⟩|exact⟨rfl,rfl,True.intro⟩|rfl|(simp only[List.length_set];first|omega|(refine⟨?_,?_⟩<;>omega)|(refine⟨?_,?_,?_⟩<;>omega))|(intro hg;(try simp only[bB]at hg);first|omega|(refine⟨?_,?_⟩<;>omega)|(refine⟨?_,?_,?_⟩<;>first|omega|(show _<_;(try simp only[List.length_set]);omega)|exact leT rfl))|(refine⟨?_,?_⟩<;>omega)|(refine⟨?_,?_,?_⟩<;>first|omega|(show _<_;(try simp only[List.length_set]);omega)|exact leT rfl)|(simp only[show rI.d=(0:Int)from rfl];omega));done));(conv=>whnf))))
    exact EvRet.rows (R := rL) rfl hi2 rfl rfl
def dN (zs : List Int) (i : Nat) : Int := if 16 ≤ pick zs (2 * i + 1) 64 then (pick zs (2 * i + 1) 64).tmod 6 else pick zs (2 * i + 1) 64
def dV (zs : List Int) (i : Nat) : Int := if 14 ≤ pick zs (2 * i + 2) 56 then (pick zs (2 * i + 2) 56).tmod 6 else pick zs (2 * i + 2) 56
theorem tmod6 {x : Int} (h : 0 ≤ x) : 0 ≤ x.tmod 6 ∧ x.tmod 6 < 6 := by
  rw [Int.tmod_eq_emod_of_nonneg h]
  omega
theorem dN_in (zs : List Int) (i : Nat) : 0 ≤ dN zs i ∧ dN zs i < 16 := by
  have h1 := pick_nn zs (2 * i + 1) 64 (by decide)
  have h2 := tmod6 h1
  unfold dN
  split <;> omega
theorem dV_in (zs : List Int) (i : Nat) : 0 ≤ dV zs i ∧ dV zs i < 14 := by
  have h1 := pick_nn zs (2 * i + 2) 56 (by decide)
  have h2 := tmod6 h1
  unfold dV
  split <;> omega
def dE (zs : List Int) (i : Nat) : Lb := (namesD.getD (dN zs i).toNat ByteArray.empty, valuesD.getD (dV zs i).toNat ByteArray.empty)
def dirtyL (zs : List Int) : List Lb := (List.range (pick zs 0 11).toNat).map (dE zs)
theorem dirty_len (zs : List Int) : (dirtyL zs).length ≤ 10 := by
  have h1 := pick_nn zs 0 11 (by decide)
  have h2 := pick_lt zs 0 11 (by decide)
  simp [dirtyL]
  omega
set_option maxRecDepth 10000 in
theorem dirty_s (v : Value) (zs : List Int) (w : World) (h : Ints w v zs) : Con Tryd.prog 7 #[v] w (RetRows rL 42 w (dirtyL zs)) := by
  obtain ⟨A1, c1, rfl, e1, e2⟩ := h.form
  have hm0 := pick_nn zs 0 11 (by decide)
  have hm1 := pick_lt zs 0 11 (by decide)
  obtain ⟨m, hm⟩ : ∃ m : Nat, pick zs 0 11 = (m : Int) := ⟨(pick zs 0 11).toNat, by omega⟩
  have hdl : dirtyL zs = (List.range m).map (dE zs) := by unfold dirtyL; rw [hm]; rfl
  rw [hdl]
  rw [hm] at hm0 hm1
  refine enter tabOk mixed Tryd.func7 rfl Tryd.ntmps7 Tryd.results7 [.s 0 1 zs.length c1] (fun _ => A1) [⟨0, false, 3, 1, c1, .rows Int rI (zs)⟩] 1 rfl rfl (.ro (hp0 _ _ _) _ rfl rfl rfl (ro_ints h rfl _)) ?_
  ((conv=>whnf);(repeat(refine And.intro ?_ ?_;(focus((first|omega|exact⟨rfl,True.intro⟩|exact⟨rfl,rfl,True.intro⟩|rfl|(simp only[List.length_set];first|omega|(refine⟨?_,?_⟩<;>omega)|(refine⟨?_,?_,?_⟩<;>omega))|(intro hg;(try simp only[bB]at hg);first|omega|(refine⟨?_,?_⟩<;>omega)|(refine⟨?_,?_,?_⟩<;>first|omega|(show _<_;(try simp only[List.length_set]);omega)|exact leT rfl))|(refine⟨?_,?_⟩<;>omega)|(refine⟨?_,?_,?_⟩<;>first|omega|(show _<_;(try simp only[List.length_set]);omega)|exact leT rfl)|(simp only[show rI.d=(0:Int)from rfl];omega));done));(conv=>whnf))))
  refine EvCall.rows (R := rS) (ty := 9) (xs := namesL) Tryd.call18 (fun ρ W hp => names_s W) (fun ca ha1 ha2 => ?_)
  ((conv=>whnf);(repeat(refine And.intro ?_ ?_;(focus((first|omega|exact⟨rfl,True.intro⟩|exact⟨rfl,rfl,True.intro⟩|rfl|(simp only[List.length_set];first|omega|(refine⟨?_,?_⟩<;>omega)|(refine⟨?_,?_,?_⟩<;>omega))|(intro hg;(try simp only[bB]at hg);first|omega|(refine⟨?_,?_⟩<;>omega)|(refine⟨?_,?_,?_⟩<;>first|omega|(show _<_;(try simp only[List.length_set]);omega)|exact leT rfl))|(refine⟨?_,?_⟩<;>omega)|(refine⟨?_,?_,?_⟩<;>first|omega|(show _<_;(try simp only[List.length_set]);omega)|exact leT rfl)|(simp only[show rI.d=(0:Int)from rfl];omega));done));(conv=>whnf))))
  refine EvBi.append (R := rS) tyok43 rfl tyok9 rfl (by decide) rfl rfl rfl ha1 (namesD.drop 6) (fun ρ W hp => hp.lit (R := rS) (ys := namesD.drop 6) rfl (by decide) (by decide) (by omega) rfl) (by decide) (by decide) (fun cb hb1 hb2 => ?_)
  ((conv=>whnf);(repeat(refine And.intro ?_ ?_;(focus((first|omega|exact⟨rfl,True.intro⟩|exact⟨rfl,rfl,True.intro⟩|rfl|(simp only[List.length_set];first|omega|(refine⟨?_,?_⟩<;>omega)|(refine⟨?_,?_,?_⟩<;>omega))|(intro hg;(try simp only[bB]at hg);first|omega|(refine⟨?_,?_⟩<;>omega)|(refine⟨?_,?_,?_⟩<;>first|omega|(show _<_;(try simp only[List.length_set]);omega)|exact leT rfl))|(refine⟨?_,?_⟩<;>omega)|(refine⟨?_,?_,?_⟩<;>first|omega|(show _<_;(try simp only[List.length_set]);omega)|exact leT rfl)|(simp only[show rI.d=(0:Int)from rfl];omega));done));(conv=>whnf))))
  refine EvCall.rows (R := rS) (ty := 9) (xs := valuesL) Tryd.call19 (fun ρ W hp => values_s W) (fun cc hc1 hc2 => ?_)
  ((conv=>whnf);(repeat(refine And.intro ?_ ?_;(focus((first|omega|exact⟨rfl,True.intro⟩|exact⟨rfl,rfl,True.intro⟩|rfl|(simp only[List.length_set];first|omega|(refine⟨?_,?_⟩<;>omega)|(refine⟨?_,?_,?_⟩<;>omega))|(intro hg;(try simp only[bB]at hg);first|omega|(refine⟨?_,?_⟩<;>omega)|(refine⟨?_,?_,?_⟩<;>first|omega|(show _<_;(try simp only[List.length_set]);omega)|exact leT rfl))|(refine⟨?_,?_⟩<;>omega)|(refine⟨?_,?_,?_⟩<;>first|omega|(show _<_;(try simp only[List.length_set]);omega)|exact leT rfl)|(simp only[show rI.d=(0:Int)from rfl];omega));done));(conv=>whnf))))
  refine EvBi.append (R := rS) tyok43 rfl tyok9 rfl (by decide) rfl rfl rfl hc1 (valuesD.drop 6) (fun ρ W hp => hp.lit (R := rS) (ys := valuesD.drop 6) rfl (by decide) (by decide) (by omega) rfl) (by decide) (by decide) (fun cd hd1 hd2 => ?_)
  ((conv=>whnf);(repeat(refine And.intro ?_ ?_;(focus((first|omega|exact⟨rfl,True.intro⟩|exact⟨rfl,rfl,True.intro⟩|rfl|(simp only[List.length_set];first|omega|(refine⟨?_,?_⟩<;>omega)|(refine⟨?_,?_,?_⟩<;>omega))|(intro hg;(try simp only[bB]at hg);first|omega|(refine⟨?_,?_⟩<;>omega)|(refine⟨?_,?_,?_⟩<;>first|omega|(show _<_;(try simp only[List.length_set]);omega)|exact leT rfl))|(refine⟨?_,?_⟩<;>omega)|(refine⟨?_,?_,?_⟩<;>first|omega|(show _<_;(try simp only[List.length_set]);omega)|exact leT rfl)|(simp only[show rI.d=(0:Int)from rfl];omega));done));(conv=>whnf))))
  refine EvLoop.inv (α := Nat × Nat) (fun p => p.1 ≤ m ∧ p.1 ≤ p.2 ∧ p.2 ≤ 9223372036854775807) (fun p => m - p.1) (fun p => [(6, [], .v (.int .i64 ((p.1 : Int)))), (5, [], .s 5 2 p.1 p.2), (4, [], .s 6 1 14 cd), (3, [], .s 3 1 16 cb), (0, [], .s 0 1 zs.length c1)])
    (fun p => [⟨5, true, 42, 2, p.2, .rows Lb rL ((List.range p.1).map (dE zs))⟩, ⟨6, true, 9, 1, cd, .rows ByteArray rS valuesD⟩, ⟨3, true, 9, 1, cb, .rows ByteArray rS namesD⟩, ⟨0, false, 3, 1, c1, .rows Int rI zs⟩]) 7 (0, 0) ⟨by omega, by decide, by decide⟩ (Sub.of [] [5] rfl ?_) ?_
  · ((repeat' (refine And.intro ?_ ?_)) <;> first | rfl | exact True.intro | omega)
  intro p ⟨hi1, hi2, hi3⟩
  have hn6 : namesD.length = 16 := rfl
  have hv6 : valuesD.length = 14 := rfl
  have hll : ((List.range p.1).map (dE zs)).length = p.1 := by simp
  have hll2 : ((List.range (p.1 + 1)).map (dE zs)).length = p.1 + 1 := by simp
  have hst : (List.range (p.1 + 1)).map (dE zs) = (List.range p.1).map (dE zs) ++ [dE zs p.1] := by rw [List.range_succ]; simp
  ((conv=>whnf);(repeat(refine And.intro ?_ ?_;(focus((first|omega|exact⟨rfl,True.intro⟩|exact⟨rfl,rfl,True.intro⟩|rfl|(simp only[List.length_set];first|omega|(refine⟨?_,?_⟩<;>omega)|(refine⟨?_,?_,?_⟩<;>omega))|(intro hg;(try simp only[bB]at hg);first|omega|(refine⟨?_,?_⟩<;>omega)|(refine⟨?_,?_,?_⟩<;>first|omega|(show _<_;(try simp only[List.length_set]);omega)|exact leT rfl))|(refine⟨?_,?_⟩<;>omega)|(refine⟨?_,?_,?_⟩<;>first|omega|(show _<_;(try simp only[List.length_set]);omega)|exact leT rfl)|(simp only[show rI.d=(0:Int)from rfl];omega));done));(conv=>whnf))))
  refine EvCall.plain Tryd.call20 (.v (.int .i64 (m : Int))) rfl (fun ρ W hp => by
    have := pick_s (den ρ (.s 0 1 zs.length c1)) zs 0 11 W (hp.ints (n := 0) rfl e1 e2 h.2) (by decide) (by decide) (by decide)
    rw [show (0 : Int).toNat = 0 from rfl, hm] at this
    exact this) ?_
  ((conv=>whnf);(repeat(refine And.intro ?_ ?_;(focus((first|omega|exact⟨rfl,True.intro⟩|exact⟨rfl,rfl,True.intro⟩|rfl|(simp only[List.length_set];first|omega|(refine⟨?_,?_⟩<;>omega)|(refine⟨?_,?_,?_⟩<;>omega))|(intro hg;(try simp only[bB]at hg);first|omega|(refine⟨?_,?_⟩<;>omega)|(refine⟨?_,?_,?_⟩<;>first|omega|(show _<_;(try simp only[List.length_set]);omega)|exact leT rfl))|(refine⟨?_,?_⟩<;>omega)|(refine⟨?_,?_,?_⟩<;>first|omega|(show _<_;(try simp only[List.length_set]);omega)|exact leT rfl)|(simp only[show rI.d=(0:Int)from rfl];omega));done));(conv=>whnf))))
  refine EvIf.split (fun g1 => ?_) (fun g1 => ?_)
  · simp only [decide_eq_true_eq] at g1
    have a1 := pick_nn zs (2 * p.1 + 1) 64 (by decide)
    have a2 := pick_lt zs (2 * p.1 + 1) 64 (by decide)
    have b1 := pick_nn zs (2 * p.1 + 2) 56 (by decide)
    have b2 := pick_lt zs (2 * p.1 + 2) 56 (by decide)
    have a3 := tmod6 a1
    have b3 := tmod6 b1
    have hx : dN zs p.1 = if 16 ≤ pick zs (2 * p.1 + 1) 64 then (pick zs (2 * p.1 + 1) 64).tmod 6 else pick zs (2 * p.1 + 1) 64 := rfl
    have hy : dV zs p.1 = if 14 ≤ pick zs (2 * p.1 + 2) 56 then (pick zs (2 * p.1 + 2) 56).tmod 6 else pick zs (2 * p.1 + 2) 56 := rfl
    ((conv=>whnf);(repeat(refine And.intro ?_ ?_;(focus((first|omega|exact⟨rfl,True.intro⟩|exact⟨rfl,rfl,True.intro⟩|rfl|(simp only[List.length_set];first|omega|(refine⟨?_,?_⟩<;>omega)|(refine⟨?_,?_,?_⟩<;>omega))|(intro hg;(try simp only[bB]at hg);first|omega|(refine⟨?_,?_⟩<;>omega)|(refine⟨?_,?_,?_⟩<;>first|omega|(show _<_;(try simp only[List.length_set]);omega)|exact leT rfl))|(refine⟨?_,?_⟩<;>omega)|(refine⟨?_,?_,?_⟩<;>first|omega|(show _<_;(try simp only[List.length_set]);omega)|exact leT rfl)|(simp only[show rI.d=(0:Int)from rfl];omega));done));(conv=>whnf))))
    refine EvCall.plain Tryd.call20 (.v (.int .i64 (pick zs (2 * p.1 + 1) 64))) rfl (fun ρ W hp => by
      have := pick_s (den ρ (.s 0 1 zs.length c1)) zs (2 * (p.1 : Int) + 1) 64 W (hp.ints (n := 0) rfl e1 e2 h.2) (by decide) (by decide) (by omega)
      rw [show (2 * (p.1 : Int) + 1).toNat = 2 * p.1 + 1 by omega] at this
      exact this) ?_
    ((conv=>whnf);(repeat(refine And.intro ?_ ?_;(focus((first|omega|exact⟨rfl,True.intro⟩|exact⟨rfl,rfl,True.intro⟩|rfl|(simp only[List.length_set];first|omega|(refine⟨?_,?_⟩<;>omega)|(refine⟨?_,?_,?_⟩<;>omega))|(intro hg;(try simp only[bB]at hg);first|omega|(refine⟨?_,?_⟩<;>omega)|(refine⟨?_,?_,?_⟩<;>first|omega|(show _<_;(try simp only[List.length_set]);omega)|exact leT rfl))|(refine⟨?_,?_⟩<;>omega)|(refine⟨?_,?_,?_⟩<;>first|omega|(show _<_;(try simp only[List.length_set]);omega)|exact leT rfl)|(simp only[show rI.d=(0:Int)from rfl];omega));done));(conv=>whnf))))
    refine EvIf.split (fun g2 => ?_) (fun g2 => ?_)
    · simp only [decide_eq_true_eq] at g2
      rw [if_pos (show 16 ≤ pick zs (2 * p.1 + 1) 64 from g2)] at hx
      ((conv=>whnf);(repeat(refine And.intro ?_ ?_;(focus((first|omega|exact⟨rfl,True.intro⟩|exact⟨rfl,rfl,True.intro⟩|rfl|(simp only[List.length_set];first|omega|(refine⟨?_,?_⟩<;>omega)|(refine⟨?_,?_,?_⟩<;>omega))|(intro hg;(try simp only[bB]at hg);first|omega|(refine⟨?_,?_⟩<;>omega)|(refine⟨?_,?_,?_⟩<;>first|omega|(show _<_;(try simp only[List.length_set]);omega)|exact leT rfl))|(refine⟨?_,?_⟩<;>omega)|(refine⟨?_,?_,?_⟩<;>first|omega|(show _<_;(try simp only[List.length_set]);omega)|exact leT rfl)|(simp only[show rI.d=(0:Int)from rfl];omega));done));(conv=>whnf))))
      refine EvCall.plain Tryd.call20 (.v (.int .i64 (pick zs (2 * p.1 + 2) 56))) rfl (fun ρ W hp => by
        have := pick_s (den ρ (.s 0 1 zs.length c1)) zs (2 * (p.1 : Int) + 2) 56 W (hp.ints (n := 0) rfl e1 e2 h.2) (by decide) (by decide) (by omega)
        rw [show (2 * (p.1 : Int) + 2).toNat = 2 * p.1 + 2 by omega] at this
        exact this) ?_
      ((conv=>whnf);(repeat(refine And.intro ?_ ?_;(focus((first|omega|exact⟨rfl,True.intro⟩|exact⟨rfl,rfl,True.intro⟩|rfl|(simp only[List.length_set];first|omega|(refine⟨?_,?_⟩<;>omega)|(refine⟨?_,?_,?_⟩<;>omega))|(intro hg;(try simp only[bB]at hg);first|omega|(refine⟨?_,?_⟩<;>omega)|(refine⟨?_,?_,?_⟩<;>first|omega|(show _<_;(try simp only[List.length_set]);omega)|exact leT rfl))|(refine⟨?_,?_⟩<;>omega)|(refine⟨?_,?_,?_⟩<;>first|omega|(show _<_;(try simp only[List.length_set]);omega)|exact leT rfl)|(simp only[show rI.d=(0:Int)from rfl];omega));done));(conv=>whnf))))
      refine EvIf.split (fun g3 => ?_) (fun g3 => ?_)
      · simp only [decide_eq_true_eq] at g3
        rw [if_pos (show 14 ≤ pick zs (2 * p.1 + 2) 56 from g3)] at hy
        ((conv=>whnf);(repeat(refine And.intro ?_ ?_;(focus((first|omega|exact⟨rfl,True.intro⟩|exact⟨rfl,rfl,True.intro⟩|rfl|(simp only[List.length_set];first|omega|(refine⟨?_,?_⟩<;>omega)|(refine⟨?_,?_,?_⟩<;>omega))|(intro hg;(try simp only[bB]at hg);first|omega|(refine⟨?_,?_⟩<;>omega)|(refine⟨?_,?_,?_⟩<;>first|omega|(show _<_;(try simp only[List.length_set]);omega)|exact leT rfl))|(refine⟨?_,?_⟩<;>omega)|(refine⟨?_,?_,?_⟩<;>first|omega|(show _<_;(try simp only[List.length_set]);omega)|exact leT rfl)|(simp only[show rI.d=(0:Int)from rfl];omega));done));(conv=>whnf))))
        (refine EvDraw.one (.q 0 (.q 1 (.q 2 (.q 3 (.q 4 (.q 5 (.q 6 (.q 7 (.q 8 (.q 9 (.n 10 false (.n 11 true (.q 12 (.z)) (.e)) (.e)))))))))))) (by kernel_rfl) ?_)
        ((conv=>whnf);(repeat(refine And.intro ?_ ?_;(focus((first|omega|exact⟨rfl,True.intro⟩|exact⟨rfl,rfl,True.intro⟩|rfl|(simp only[List.length_set];first|omega|(refine⟨?_,?_⟩<;>omega)|(refine⟨?_,?_,?_⟩<;>omega))|(intro hg;(try simp only[bB]at hg);first|omega|(refine⟨?_,?_⟩<;>omega)|(refine⟨?_,?_,?_⟩<;>first|omega|(show _<_;(try simp only[List.length_set]);omega)|exact leT rfl))|(refine⟨?_,?_⟩<;>omega)|(refine⟨?_,?_,?_⟩<;>first|omega|(show _<_;(try simp only[List.length_set]);omega)|exact leT rfl)|(simp only[show rI.d=(0:Int)from rfl];omega));done));(conv=>whnf))))
        refine EvBi.append (R := rL) tyok25 rfl tyok42 rfl (by decide) rfl rfl hll.symm (by rw [hll]; exact hi2) [dE zs p.1] (fun ρ W hp => hp.lit (R := rL) (ys := [dE zs p.1]) rfl (by decide) (by simp) (by omega) (by unfold dE; rw [← hx, ← hy]; rfl)) (by rw [hll]; show (_ + 1) * 32 ≤ _; omega) (by rw [hll]; show _ + 1 ≤ _; omega) (fun cap' hq1 hq2 => ?_)
        rw [hll] at hq1
        rw [← hst]
        ((conv=>whnf);(repeat(refine And.intro ?_ ?_;(focus((first|omega|exact⟨rfl,True.intro⟩|exact⟨rfl,rfl,True.intro⟩|rfl|(simp only[List.length_set];first|omega|(refine⟨?_,?_⟩<;>omega)|(refine⟨?_,?_,?_⟩<;>omega))|(intro hg;(try simp only[bB]at hg);first|omega|(refine⟨?_,?_⟩<;>omega)|(refine⟨?_,?_,?_⟩<;>first|omega|(show _<_;(try simp only[List.length_set]);omega)|exact leT rfl))|(refine⟨?_,?_⟩<;>omega)|(refine⟨?_,?_,?_⟩<;>first|omega|(show _<_;(try simp only[List.length_set]);omega)|exact leT rfl)|(simp only[show rI.d=(0:Int)from rfl];omega));done));(conv=>whnf))))
        refine LoopI.back (p.1 + 1, cap') ⟨by show p.1 + 1 ≤ m; omega, hq1, hq2⟩ (by show m - (p.1 + 1) < m - p.1; omega) (Sub.of [(5, 8)] [] rfl ?_)
        (repeat' (refine And.intro ?_ ?_)) <;> first | rfl | exact True.intro | exact hll2 | exact hll2.symm | (rw [hll]; rfl) | omega
      · simp only [decide_eq_false_iff_not] at g3
        rw [if_neg (show ¬ 14 ≤ pick zs (2 * p.1 + 2) 56 from g3)] at hy
        have g3' : pick zs (2 * p.1 + 2) 56 < 14 := by
          have : ¬ 14 ≤ pick zs (2 * p.1 + 2) 56 := g3
          omega
        ((conv=>whnf);(repeat(refine And.intro ?_ ?_;(focus((first|omega|exact⟨rfl,True.intro⟩|exact⟨rfl,rfl,True.intro⟩|rfl|(simp only[List.length_set];first|omega|(refine⟨?_,?_⟩<;>omega)|(refine⟨?_,?_,?_⟩<;>omega))|(intro hg;(try simp only[bB]at hg);first|omega|(refine⟨?_,?_⟩<;>omega)|(refine⟨?_,?_,?_⟩<;>first|omega|(show _<_;(try simp only[List.length_set]);omega)|exact leT rfl))|(refine⟨?_,?_⟩<;>omega)|(refine⟨?_,?_,?_⟩<;>first|omega|(show _<_;(try simp only[List.length_set]);omega)|exact leT rfl)|(simp only[show rI.d=(0:Int)from rfl];omega));done));(conv=>whnf))))
        (refine EvDraw.one (.q 0 (.q 1 (.q 2 (.q 3 (.q 4 (.q 5 (.q 6 (.q 7 (.q 8 (.q 9 (.n 10 false (.n 11 true (.q 12 (.z)) (.e)) (.e)))))))))))) (by kernel_rfl) ?_)
        ((conv=>whnf);(repeat(refine And.intro ?_ ?_;(focus((first|omega|exact⟨rfl,True.intro⟩|exact⟨rfl,rfl,True.intro⟩|rfl|(simp only[List.length_set];first|omega|(refine⟨?_,?_⟩<;>omega)|(refine⟨?_,?_,?_⟩<;>omega))|(intro hg;(try simp only[bB]at hg);first|omega|(refine⟨?_,?_⟩<;>omega)|(refine⟨?_,?_,?_⟩<;>first|omega|(show _<_;(try simp only[List.length_set]);omega)|exact leT rfl))|(refine⟨?_,?_⟩<;>omega)|(refine⟨?_,?_,?_⟩<;>first|omega|(show _<_;(try simp only[List.length_set]);omega)|exact leT rfl)|(simp only[show rI.d=(0:Int)from rfl];omega));done));(conv=>whnf))))
        refine EvBi.append (R := rL) tyok25 rfl tyok42 rfl (by decide) rfl rfl hll.symm (by rw [hll]; exact hi2) [dE zs p.1] (fun ρ W hp => hp.lit (R := rL) (ys := [dE zs p.1]) rfl (by decide) (by simp) (by omega) (by unfold dE; rw [← hx, ← hy]; rfl)) (by rw [hll]; show (_ + 1) * 32 ≤ _; omega) (by rw [hll]; show _ + 1 ≤ _; omega) (fun cap' hq1 hq2 => ?_)
        rw [hll] at hq1
        rw [← hst]
        ((conv=>whnf);(repeat(refine And.intro ?_ ?_;(focus((first|omega|exact⟨rfl,True.intro⟩|exact⟨rfl,rfl,True.intro⟩|rfl|(simp only[List.length_set];first|omega|(refine⟨?_,?_⟩<;>omega)|(refine⟨?_,?_,?_⟩<;>omega))|(intro hg;(try simp only[bB]at hg);first|omega|(refine⟨?_,?_⟩<;>omega)|(refine⟨?_,?_,?_⟩<;>first|omega|(show _<_;(try simp only[List.length_set]);omega)|exact leT rfl))|(refine⟨?_,?_⟩<;>omega)|(refine⟨?_,?_,?_⟩<;>first|omega|(show _<_;(try simp only[List.length_set]);omega)|exact leT rfl)|(simp only[show rI.d=(0:Int)from rfl];omega));done));(conv=>whnf))))
        refine LoopI.back (p.1 + 1, cap') ⟨by show p.1 + 1 ≤ m; omega, hq1, hq2⟩ (by show m - (p.1 + 1) < m - p.1; omega) (Sub.of [(5, 8)] [] rfl ?_)
        (repeat' (refine And.intro ?_ ?_)) <;> first | rfl | exact True.intro | exact hll2 | exact hll2.symm | (rw [hll]; rfl) | omega
    · simp only [decide_eq_false_iff_not] at g2
      rw [if_neg (show ¬ 16 ≤ pick zs (2 * p.1 + 1) 64 from g2)] at hx
      have g2' : pick zs (2 * p.1 + 1) 64 < 16 := by
        have : ¬ 16 ≤ pick zs (2 * p.1 + 1) 64 := g2
        omega
      ((conv=>whnf);(repeat(refine And.intro ?_ ?_;(focus((first|omega|exact⟨rfl,True.intro⟩|exact⟨rfl,rfl,True.intro⟩|rfl|(simp only[List.length_set];first|omega|(refine⟨?_,?_⟩<;>omega)|(refine⟨?_,?_,?_⟩<;>omega))|(intro hg;(try simp only[bB]at hg);first|omega|(refine⟨?_,?_⟩<;>omega)|(refine⟨?_,?_,?_⟩<;>first|omega|(show _<_;(try simp only[List.length_set]);omega)|exact leT rfl))|(refine⟨?_,?_⟩<;>omega)|(refine⟨?_,?_,?_⟩<;>first|omega|(show _<_;(try simp only[List.length_set]);omega)|exact leT rfl)|(simp only[show rI.d=(0:Int)from rfl];omega));done));(conv=>whnf))))
      refine EvCall.plain Tryd.call20 (.v (.int .i64 (pick zs (2 * p.1 + 2) 56))) rfl (fun ρ W hp => by
        have := pick_s (den ρ (.s 0 1 zs.length c1)) zs (2 * (p.1 : Int) + 2) 56 W (hp.ints (n := 0) rfl e1 e2 h.2) (by decide) (by decide) (by omega)
        rw [show (2 * (p.1 : Int) + 2).toNat = 2 * p.1 + 2 by omega] at this
        exact this) ?_
      ((conv=>whnf);(repeat(refine And.intro ?_ ?_;(focus((first|omega|exact⟨rfl,True.intro⟩|exact⟨rfl,rfl,True.intro⟩|rfl|(simp only[List.length_set];first|omega|(refine⟨?_,?_⟩<;>omega)|(refine⟨?_,?_,?_⟩<;>omega))|(intro hg;(try simp only[bB]at hg);first|omega|(refine⟨?_,?_⟩<;>omega)|(refine⟨?_,?_,?_⟩<;>first|omega|(show _<_;(try simp only[List.length_set]);omega)|exact leT rfl))|(refine⟨?_,?_⟩<;>omega)|(refine⟨?_,?_,?_⟩<;>first|omega|(show _<_;(try simp only[List.length_set]);omega)|exact leT rfl)|(simp only[show rI.d=(0:Int)from rfl];omega));done));(conv=>whnf))))
      refine EvIf.split (fun g3 => ?_) (fun g3 => ?_)
      · simp only [decide_eq_true_eq] at g3
        rw [if_pos (show 14 ≤ pick zs (2 * p.1 + 2) 56 from g3)] at hy
        ((conv=>whnf);(repeat(refine And.intro ?_ ?_;(focus((first|omega|exact⟨rfl,True.intro⟩|exact⟨rfl,rfl,True.intro⟩|rfl|(simp only[List.length_set];first|omega|(refine⟨?_,?_⟩<;>omega)|(refine⟨?_,?_,?_⟩<;>omega))|(intro hg;(try simp only[bB]at hg);first|omega|(refine⟨?_,?_⟩<;>omega)|(refine⟨?_,?_,?_⟩<;>first|omega|(show _<_;(try simp only[List.length_set]);omega)|exact leT rfl))|(refine⟨?_,?_⟩<;>omega)|(refine⟨?_,?_,?_⟩<;>first|omega|(show _<_;(try simp only[List.length_set]);omega)|exact leT rfl)|(simp only[show rI.d=(0:Int)from rfl];omega));done));(conv=>whnf))))
        (refine EvDraw.one (.q 0 (.q 1 (.q 2 (.q 3 (.q 4 (.q 5 (.q 6 (.q 7 (.q 8 (.q 9 (.n 10 false (.n 11 true (.q 12 (.z)) (.e)) (.e)))))))))))) (by kernel_rfl) ?_)
        ((conv=>whnf);(repeat(refine And.intro ?_ ?_;(focus((first|omega|exact⟨rfl,True.intro⟩|exact⟨rfl,rfl,True.intro⟩|rfl|(simp only[List.length_set];first|omega|(refine⟨?_,?_⟩<;>omega)|(refine⟨?_,?_,?_⟩<;>omega))|(intro hg;(try simp only[bB]at hg);first|omega|(refine⟨?_,?_⟩<;>omega)|(refine⟨?_,?_,?_⟩<;>first|omega|(show _<_;(try simp only[List.length_set]);omega)|exact leT rfl))|(refine⟨?_,?_⟩<;>omega)|(refine⟨?_,?_,?_⟩<;>first|omega|(show _<_;(try simp only[List.length_set]);omega)|exact leT rfl)|(simp only[show rI.d=(0:Int)from rfl];omega));done));(conv=>whnf))))
        refine EvBi.append (R := rL) tyok25 rfl tyok42 rfl (by decide) rfl rfl hll.symm (by rw [hll]; exact hi2) [dE zs p.1] (fun ρ W hp => hp.lit (R := rL) (ys := [dE zs p.1]) rfl (by decide) (by simp) (by omega) (by unfold dE; rw [← hx, ← hy]; rfl)) (by rw [hll]; show (_ + 1) * 32 ≤ _; omega) (by rw [hll]; show _ + 1 ≤ _; omega) (fun cap' hq1 hq2 => ?_)
        rw [hll] at hq1
        rw [← hst]
        ((conv=>whnf);(repeat(refine And.intro ?_ ?_;(focus((first|omega|exact⟨rfl,True.intro⟩|exact⟨rfl,rfl,True.intro⟩|rfl|(simp only[List.length_set];first|omega|(refine⟨?_,?_⟩<;>omega)|(refine⟨?_,?_,?_⟩<;>omega))|(intro hg;(try simp only[bB]at hg);first|omega|(refine⟨?_,?_⟩<;>omega)|(refine⟨?_,?_,?_⟩<;>first|omega|(show _<_;(try simp only[List.length_set]);omega)|exact leT rfl))|(refine⟨?_,?_⟩<;>omega)|(refine⟨?_,?_,?_⟩<;>first|omega|(show _<_;(try simp only[List.length_set]);omega)|exact leT rfl)|(simp only[show rI.d=(0:Int)from rfl];omega));done));(conv=>whnf))))
        refine LoopI.back (p.1 + 1, cap') ⟨by show p.1 + 1 ≤ m; omega, hq1, hq2⟩ (by show m - (p.1 + 1) < m - p.1; omega) (Sub.of [(5, 8)] [] rfl ?_)
        (repeat' (refine And.intro ?_ ?_)) <;> first | rfl | exact True.intro | exact hll2 | exact hll2.symm | (rw [hll]; rfl) | omega
      · simp only [decide_eq_false_iff_not] at g3
        rw [if_neg (show ¬ 14 ≤ pick zs (2 * p.1 + 2) 56 from g3)] at hy
        have g3' : pick zs (2 * p.1 + 2) 56 < 14 := by
          have : ¬ 14 ≤ pick zs (2 * p.1 + 2) 56 := g3
          omega
        ((conv=>whnf);(repeat(refine And.intro ?_ ?_;(focus((first|omega|exact⟨rfl,True.intro⟩|exact⟨rfl,rfl,True.intro⟩|rfl|(simp only[List.length_set];first|omega|(refine⟨?_,?_⟩<;>omega)|(refine⟨?_,?_,?_⟩<;>omega))|(intro hg;(try simp only[bB]at hg);first|omega|(refine⟨?_,?_⟩<;>omega)|(refine⟨?_,?_,?_⟩<;>first|omega|(show _<_;(try simp only[List.length_set]);omega)|exact leT rfl))|(refine⟨?_,?_⟩<;>omega)|(refine⟨?_,?_,?_⟩<;>first|omega|(show _<_;(try simp only[List.length_set]);omega)|exact leT rfl)|(simp only[show rI.d=(0:Int)from rfl];omega));done));(conv=>whnf))))
        (refine EvDraw.one (.q 0 (.q 1 (.q 2 (.q 3 (.q 4 (.q 5 (.q 6 (.q 7 (.q 8 (.q 9 (.n 10 false (.n 11 true (.q 12 (.z)) (.e)) (.e)))))))))))) (by kernel_rfl) ?_)
        ((conv=>whnf);(repeat(refine And.intro ?_ ?_;(focus((first|omega|exact⟨rfl,True.intro⟩|exact⟨rfl,rfl,True.intro⟩|rfl|(simp only[List.length_set];first|omega|(refine⟨?_,?_⟩<;>omega)|(refine⟨?_,?_,?_⟩<;>omega))|(intro hg;(try simp only[bB]at hg);first|omega|(refine⟨?_,?_⟩<;>omega)|(refine⟨?_,?_,?_⟩<;>first|omega|(show _<_;(try simp only[List.length_set]);omega)|exact leT rfl))|(refine⟨?_,?_⟩<;>omega)|(refine⟨?_,?_,?_⟩<;>first|omega|(show _<_;(try simp only[List.length_set]);omega)|exact leT rfl)|(simp only[show rI.d=(0:Int)from rfl];omega));done));(conv=>whnf))))
        refine EvBi.append (R := rL) tyok25 rfl tyok42 rfl (by decide) rfl rfl hll.symm (by rw [hll]; exact hi2) [dE zs p.1] (fun ρ W hp => hp.lit (R := rL) (ys := [dE zs p.1]) rfl (by decide) (by simp) (by omega) (by unfold dE; rw [← hx, ← hy]; rfl)) (by rw [hll]; show (_ + 1) * 32 ≤ _; omega) (by rw [hll]; show _ + 1 ≤ _; omega) (fun cap' hq1 hq2 => ?_)
        rw [hll] at hq1
        rw [← hst]
        ((conv=>whnf);(repeat(refine And.intro ?_ ?_;(focus((first|omega|exact⟨rfl,True.intro⟩|exact⟨rfl,rfl,True.intro⟩|rfl|(simp only[List.length_set];first|omega|(refine⟨?_,?_⟩<;>omega)|(refine⟨?_,?_,?_⟩<;>omega))|(intro hg;(try simp only[bB]at hg);first|omega|(refine⟨?_,?_⟩<;>omega)|(refine⟨?_,?_,?_⟩<;>first|omega|(show _<_;(try simp only[List.length_set]);omega)|exact leT rfl))|(refine⟨?_,?_⟩<;>omega)|(refine⟨?_,?_,?_⟩<;>first|omega|(show _<_;(try simp only[List.length_set]);omega)|exact leT rfl)|(simp only[show rI.d=(0:Int)from rfl];omega));done));(conv=>whnf))))
        refine LoopI.back (p.1 + 1, cap') ⟨by show p.1 + 1 ≤ m; omega, hq1, hq2⟩ (by show m - (p.1 + 1) < m - p.1; omega) (Sub.of [(5, 8)] [] rfl ?_)
        (repeat' (refine And.intro ?_ ?_)) <;> first | rfl | exact True.intro | exact hll2 | exact hll2.symm | (rw [hll]; rfl) | omega
  · simp only [decide_eq_false_iff_not] at g1
    obtain ⟨i, cp⟩ := p
    obtain rfl : i = m := by simp only at g1 hi1; omega
    ((conv=>whnf);(repeat(refine And.intro ?_ ?_;(focus((first|omega|exact⟨rfl,True.intro⟩|exact⟨rfl,rfl,True.intro⟩|rfl|(simp only[List.length_set];first|omega|(refine⟨?_,?_⟩<;>omega)|(refine⟨?_,?_,?_⟩<;>omega))|(intro hg;(try simp only[bB]at hg);first|omega|(refine⟨?_,?_⟩<;>omega)|(refine⟨?_,?_,?_⟩<;>first|omega|(show _<_;(try simp only[List.length_set]);omega)|exact leT rfl))|(refine⟨?_,?_⟩<;>omega)|(refine⟨?_,?_,?_⟩<;>first|omega|(show _<_;(try simp only[List.length_set]);omega)|exact leT rfl)|(simp only[show rI.d=(0:Int)from rfl];omega));done));(conv=>whnf))))
    exact EvRet.rows (R := rL) hll.symm (by rw [hll]; exact hi2) rfl rfl
def mE (zs : List Int) (i : Nat) : Mt := ⟨namesL.getD (pick zs (3 * i + 1) 6).toNat ByteArray.empty, pick zs (3 * i + 2) 3, valuesM.getD (pick zs (3 * i + 3) 8).toNat ByteArray.empty⟩
def matchL (zs : List Int) : List Mt := (List.range (pick zs 0 4).toNat).map (mE zs)
theorem match_len (zs : List Int) : (matchL zs).length ≤ 3 := by
  have h1 := pick_nn zs 0 4 (by decide)
  have h2 := pick_lt zs 0 4 (by decide)
  simp [matchL]
  omega
end Go.Proofs.YtebfhljamoapjaaDoor
