
/- Claims: Band, Check and Bands of the reference. Claims: the values that the reference walks. Claims: the values inside the range. Claims: the claims that the reference makes. -/
import Derived.Test.YtpnngbfmmjjnaaaClA
namespace Go.Proofs.Ytpnngbfmmjjnaaa
open Go.RowKit
set_option linter.unusedVariables false
set_option linter.unusedSimpArgs false

/-- What Check returns. -/
def checkR (d : Dc) (l : List Cl) : Int :=
  if validCode d ≠ 0 then validCode d else if 4096 < l.length then 4 else if ¬ (∀ c ∈ l, validB d c = true) then 1 else 0
set_option maxRecDepth 10000 in
theorem ref_check_s (V v : Value) (d : Dc) (l : List Cl) (w : World) (h : DeclIs w V d) (hI : DcI d) (hv : RowsIn rC w v l) :
    Con Try.prog 76 #[V, v] w (Ret w (.int .i64 (checkR d l))) := by
  have hD := h
  obtain ⟨nm, A, c, lb, rfl, hnm, hl, hS⟩ := h
  obtain ⟨A1, c1, rfl, e1, e2⟩ := hv.form
  refine enter tabOk mixed Try.func76 rfl Try.ntmps76 Try.results76 [.a (dcS nm (.v (.slice A lb.length c)) d), .s 0 4 l.length c1] (fun _ => A1) [⟨0, false, 62, 4, c1, .rows Cl rC l⟩] 1 rfl rfl (.ro (hp0 _ _ _) _ rfl rfl rfl (ro_rows hv rfl _)) ?_
  ((conv=>whnf);(repeat(refine And.intro ?_ ?_;(focus((first|omega|exact⟨rfl,True.intro⟩|exact⟨rfl,rfl,True.intro⟩|rfl|(simp only[List.length_set];first|omega|(refine⟨?_,?_⟩<;>omega)|(refine⟨?_,?_,?_⟩<;>omega))|(intro hg;(try simp only[bB]at hg);first|omega|(refine⟨?_,?_⟩<;>omega)|(refine⟨?_,?_,?_⟩<;>first|omega|(show _<_;(try simp only[List.length_set]);omega)|exact leT rfl))|(refine⟨?_,?_⟩<;>omega)|(refine⟨?_,?_,?_⟩<;>first|omega|(show _<_;(try simp only[List.length_set]);omega)|exact leT rfl)|(simp only[show rI.d=(0:Int)from rfl];omega));done));(conv=>whnf))))
  refine EvCall.plain Try.call93 (.v (.int .i64 (validCode d))) rfl (fun ρ W hp => ref_decl_valid_s _ d W (hD.below hp.bel) hI) ?_
  ((conv=>whnf);(repeat(refine And.intro ?_ ?_;(focus((first|omega|exact⟨rfl,True.intro⟩|exact⟨rfl,rfl,True.intro⟩|rfl|(simp only[List.length_set];first|omega|(refine⟨?_,?_⟩<;>omega)|(refine⟨?_,?_,?_⟩<;>omega))|(intro hg;(try simp only[bB]at hg);first|omega|(refine⟨?_,?_⟩<;>omega)|(refine⟨?_,?_,?_⟩<;>first|omega|(show _<_;(try simp only[List.length_set]);omega)|exact leT rfl))|(refine⟨?_,?_⟩<;>omega)|(refine⟨?_,?_,?_⟩<;>first|omega|(show _<_;(try simp only[List.length_set]);omega)|exact leT rfl)|(simp only[show rI.d=(0:Int)from rfl];omega));done));(conv=>whnf))))
  refine EvIf.split (fun h1 => ?_) (fun h1 => ?_)
  · simp only [Bool.not_eq_true', decide_eq_false_iff_not] at h1
    ((conv=>whnf);(repeat(refine And.intro ?_ ?_;(focus((first|omega|exact⟨rfl,True.intro⟩|exact⟨rfl,rfl,True.intro⟩|rfl|(simp only[List.length_set];first|omega|(refine⟨?_,?_⟩<;>omega)|(refine⟨?_,?_,?_⟩<;>omega))|(intro hg;(try simp only[bB]at hg);first|omega|(refine⟨?_,?_⟩<;>omega)|(refine⟨?_,?_,?_⟩<;>first|omega|(show _<_;(try simp only[List.length_set]);omega)|exact leT rfl))|(refine⟨?_,?_⟩<;>omega)|(refine⟨?_,?_,?_⟩<;>first|omega|(show _<_;(try simp only[List.length_set]);omega)|exact leT rfl)|(simp only[show rI.d=(0:Int)from rfl];omega));done));(conv=>whnf))))
    exact ret_code (by simp [checkR, h1])
  simp only [Bool.not_eq_false', decide_eq_true_eq] at h1
  ((conv=>whnf);(repeat(refine And.intro ?_ ?_;(focus((first|omega|exact⟨rfl,True.intro⟩|exact⟨rfl,rfl,True.intro⟩|rfl|(simp only[List.length_set];first|omega|(refine⟨?_,?_⟩<;>omega)|(refine⟨?_,?_,?_⟩<;>omega))|(intro hg;(try simp only[bB]at hg);first|omega|(refine⟨?_,?_⟩<;>omega)|(refine⟨?_,?_,?_⟩<;>first|omega|(show _<_;(try simp only[List.length_set]);omega)|exact leT rfl))|(refine⟨?_,?_⟩<;>omega)|(refine⟨?_,?_,?_⟩<;>first|omega|(show _<_;(try simp only[List.length_set]);omega)|exact leT rfl)|(simp only[show rI.d=(0:Int)from rfl];omega));done));(conv=>whnf))))
  refine EvIf.split (fun h2 => ?_) (fun h2 => ?_)
  · simp only [decide_eq_true_eq] at h2
    ((conv=>whnf);(repeat(refine And.intro ?_ ?_;(focus((first|omega|exact⟨rfl,True.intro⟩|exact⟨rfl,rfl,True.intro⟩|rfl|(simp only[List.length_set];first|omega|(refine⟨?_,?_⟩<;>omega)|(refine⟨?_,?_,?_⟩<;>omega))|(intro hg;(try simp only[bB]at hg);first|omega|(refine⟨?_,?_⟩<;>omega)|(refine⟨?_,?_,?_⟩<;>first|omega|(show _<_;(try simp only[List.length_set]);omega)|exact leT rfl))|(refine⟨?_,?_⟩<;>omega)|(refine⟨?_,?_,?_⟩<;>first|omega|(show _<_;(try simp only[List.length_set]);omega)|exact leT rfl)|(simp only[show rI.d=(0:Int)from rfl];omega));done));(conv=>whnf))))
    exact ret_code (by simp only [checkR]; rw [if_neg (by simpa using h1), if_pos (by omega)])
  simp only [decide_eq_false_iff_not] at h2
  ((conv=>whnf);(repeat(refine And.intro ?_ ?_;(focus((first|omega|exact⟨rfl,True.intro⟩|exact⟨rfl,rfl,True.intro⟩|rfl|(simp only[List.length_set];first|omega|(refine⟨?_,?_⟩<;>omega)|(refine⟨?_,?_,?_⟩<;>omega))|(intro hg;(try simp only[bB]at hg);first|omega|(refine⟨?_,?_⟩<;>omega)|(refine⟨?_,?_,?_⟩<;>first|omega|(show _<_;(try simp only[List.length_set]);omega)|exact leT rfl))|(refine⟨?_,?_⟩<;>omega)|(refine⟨?_,?_,?_⟩<;>first|omega|(show _<_;(try simp only[List.length_set]);omega)|exact leT rfl)|(simp only[show rI.d=(0:Int)from rfl];omega));done));(conv=>whnf))))
  refine EvLoop.inv (α := Nat) (fun i => i ≤ l.length ∧ ∀ j, j < i → validB d (l.getD j cl0) = true) (fun i => l.length - i) (fun i => [(6, [], .v (.int .i64 (i : Int))), (2, [], .p 1 0), (1, [], .s 0 4 l.length c1)])
    (fun i => [⟨1, true, 27, 12, 1, .cs (dcS nm (.v (.slice A lb.length c)) d)⟩, ⟨0, false, 62, 4, c1, .rows Cl rC l⟩]) 2 0 ⟨by omega, fun j hj => by omega⟩ (Sub.of [] [] rfl ?_) ?_
  · ((repeat' (refine And.intro ?_ ?_)) <;> first | rfl | exact True.intro | omega)
  intro i ⟨hi, hi2⟩
  ((conv=>whnf);(repeat(refine And.intro ?_ ?_;(focus((first|omega|exact⟨rfl,True.intro⟩|exact⟨rfl,rfl,True.intro⟩|rfl|(simp only[List.length_set];first|omega|(refine⟨?_,?_⟩<;>omega)|(refine⟨?_,?_,?_⟩<;>omega))|(intro hg;(try simp only[bB]at hg);first|omega|(refine⟨?_,?_⟩<;>omega)|(refine⟨?_,?_,?_⟩<;>first|omega|(show _<_;(try simp only[List.length_set]);omega)|exact leT rfl))|(refine⟨?_,?_⟩<;>omega)|(refine⟨?_,?_,?_⟩<;>first|omega|(show _<_;(try simp only[List.length_set]);omega)|exact leT rfl)|(simp only[show rI.d=(0:Int)from rfl];omega));done));(conv=>whnf))))
  refine EvIf.split (fun h3 => ?_) (fun h3 => ?_)
  · simp only [decide_eq_true_eq] at h3
    ((conv=>whnf);(repeat(refine And.intro ?_ ?_;(focus((first|omega|exact⟨rfl,True.intro⟩|exact⟨rfl,rfl,True.intro⟩|rfl|(simp only[List.length_set];first|omega|(refine⟨?_,?_⟩<;>omega)|(refine⟨?_,?_,?_⟩<;>omega))|(intro hg;(try simp only[bB]at hg);first|omega|(refine⟨?_,?_⟩<;>omega)|(refine⟨?_,?_,?_⟩<;>first|omega|(show _<_;(try simp only[List.length_set]);omega)|exact leT rfl))|(refine⟨?_,?_⟩<;>omega)|(refine⟨?_,?_,?_⟩<;>first|omega|(show _<_;(try simp only[List.length_set]);omega)|exact leT rfl)|(simp only[show rI.d=(0:Int)from rfl];omega));done));(conv=>whnf))))
    (refine EvDraw.one (.q 0 (.q 1 (.q 2 (.q 3 (.q 4 (.n 5 true (.q 6 (.z)) (.e))))))) (by kernel_rfl) ?_)
    ((conv=>whnf);(repeat(refine And.intro ?_ ?_;(focus((first|omega|exact⟨rfl,True.intro⟩|exact⟨rfl,rfl,True.intro⟩|rfl|(simp only[List.length_set];first|omega|(refine⟨?_,?_⟩<;>omega)|(refine⟨?_,?_,?_⟩<;>omega))|(intro hg;(try simp only[bB]at hg);first|omega|(refine⟨?_,?_⟩<;>omega)|(refine⟨?_,?_,?_⟩<;>first|omega|(show _<_;(try simp only[List.length_set]);omega)|exact leT rfl))|(refine⟨?_,?_⟩<;>omega)|(refine⟨?_,?_,?_⟩<;>first|omega|(show _<_;(try simp only[List.length_set]);omega)|exact leT rfl)|(simp only[show rI.d=(0:Int)from rfl];omega));done));(conv=>whnf))))
    refine EvCall.plain Try.call94 (.v (.bool (validB d (l.getD i cl0)))) rfl (fun ρ W hp => ref_valid_s nm A lb.length c d (l.getD i cl0) W) ?_
    ((conv=>whnf);(repeat(refine And.intro ?_ ?_;(focus((first|omega|exact⟨rfl,True.intro⟩|exact⟨rfl,rfl,True.intro⟩|rfl|(simp only[List.length_set];first|omega|(refine⟨?_,?_⟩<;>omega)|(refine⟨?_,?_,?_⟩<;>omega))|(intro hg;(try simp only[bB]at hg);first|omega|(refine⟨?_,?_⟩<;>omega)|(refine⟨?_,?_,?_⟩<;>first|omega|(show _<_;(try simp only[List.length_set]);omega)|exact leT rfl))|(refine⟨?_,?_⟩<;>omega)|(refine⟨?_,?_,?_⟩<;>first|omega|(show _<_;(try simp only[List.length_set]);omega)|exact leT rfl)|(simp only[show rI.d=(0:Int)from rfl];omega));done));(conv=>whnf))))
    refine EvIf.split (fun h4 => ?_) (fun h4 => ?_)
    · simp only [Bool.not_eq_true'] at h4
      ((conv=>whnf);(repeat(refine And.intro ?_ ?_;(focus((first|omega|exact⟨rfl,True.intro⟩|exact⟨rfl,rfl,True.intro⟩|rfl|(simp only[List.length_set];first|omega|(refine⟨?_,?_⟩<;>omega)|(refine⟨?_,?_,?_⟩<;>omega))|(intro hg;(try simp only[bB]at hg);first|omega|(refine⟨?_,?_⟩<;>omega)|(refine⟨?_,?_,?_⟩<;>first|omega|(show _<_;(try simp only[List.length_set]);omega)|exact leT rfl))|(refine⟨?_,?_⟩<;>omega)|(refine⟨?_,?_,?_⟩<;>first|omega|(show _<_;(try simp only[List.length_set]);omega)|exact leT rfl)|(simp only[show rI.d=(0:Int)from rfl];omega));done));(conv=>whnf))))
      refine ret_code ?_
      simp only [checkR]
      rw [if_neg (by simpa using h1), if_neg (by omega), if_pos]
      intro hall
      have h5 := hall (l.getD i cl0) (by rw [List.getD_eq_getElem?_getD, List.getElem?_eq_getElem (by omega)]; simp)
      rw [h5] at h4
      cases h4
    simp only [Bool.not_eq_false'] at h4
    ((conv=>whnf);(repeat(refine And.intro ?_ ?_;(focus((first|omega|exact⟨rfl,True.intro⟩|exact⟨rfl,rfl,True.intro⟩|rfl|(simp only[List.length_set];first|omega|(refine⟨?_,?_⟩<;>omega)|(refine⟨?_,?_,?_⟩<;>omega))|(intro hg;(try simp only[bB]at hg);first|omega|(refine⟨?_,?_⟩<;>omega)|(refine⟨?_,?_,?_⟩<;>first|omega|(show _<_;(try simp only[List.length_set]);omega)|exact leT rfl))|(refine⟨?_,?_⟩<;>omega)|(refine⟨?_,?_,?_⟩<;>first|omega|(show _<_;(try simp only[List.length_set]);omega)|exact leT rfl)|(simp only[show rI.d=(0:Int)from rfl];omega));done));(conv=>whnf))))
    refine LoopI.back (i + 1) ⟨by omega, fun j hj => ?_⟩ (by omega) (Sub.of [] [] rfl ?_)
    · by_cases hji : j = i
      · rw [hji]; exact h4
      · exact hi2 j (by omega)
    · ((repeat' (refine And.intro ?_ ?_)) <;> first | rfl | exact True.intro | omega)
  simp only [decide_eq_false_iff_not] at h3
  obtain rfl : i = l.length := by omega
  ((conv=>whnf);(repeat(refine And.intro ?_ ?_;(focus((first|omega|exact⟨rfl,True.intro⟩|exact⟨rfl,rfl,True.intro⟩|rfl|(simp only[List.length_set];first|omega|(refine⟨?_,?_⟩<;>omega)|(refine⟨?_,?_,?_⟩<;>omega))|(intro hg;(try simp only[bB]at hg);first|omega|(refine⟨?_,?_⟩<;>omega)|(refine⟨?_,?_,?_⟩<;>first|omega|(show _<_;(try simp only[List.length_set]);omega)|exact leT rfl))|(refine⟨?_,?_⟩<;>omega)|(refine⟨?_,?_,?_⟩<;>first|omega|(show _<_;(try simp only[List.length_set]);omega)|exact leT rfl)|(simp only[show rI.d=(0:Int)from rfl];omega));done));(conv=>whnf))))
  have hall : ∀ c ∈ l, validB d c = true := fun c hc => by
    obtain ⟨j, hj, rfl⟩ := List.getElem_of_mem hc
    have := hi2 j hj
    rwa [List.getD_eq_getElem?_getD, List.getElem?_eq_getElem hj] at this
  exact ret_code (by simp only [checkR]; rw [if_neg (by simpa using h1), if_neg (by omega), if_neg (by simpa using hall)])
theorem bandsR_bad {d : Dc} {l : List Cl} (h : checkR d l ≠ 0) : bandsR d l = ([], checkR d l) := by
  unfold checkR at h ⊢
  unfold bandsR
  split
  · rfl
  · split
    · rfl
    · split
      · rfl
      · rename_i h1 h2 h3
        rw [if_neg h1, if_neg h2, if_neg h3] at h
        exact absurd rfl h
theorem bandsR_ok {d : Dc} {l : List Cl} (h : checkR d l = 0) : validCode d = 0 ∧ l.length ≤ 4096 ∧ bandsR d l = match runsR d l (d.last - d.first + 1).toNat with | none => ([], 13) | some out => (out, 0) := by
  unfold checkR at h
  unfold bandsR
  split at h
  · rename_i h1; exact absurd h h1
  · rename_i h1
    split at h
    · cases h
    · rename_i h2
      split at h
      · cases h
      · rename_i h3
        rw [if_neg h1, if_neg h2, if_neg h3]
        exact ⟨by omega, by omega, rfl⟩
theorem runs_none {d : Dc} {l : List Cl} {i : Nat} {out : List Cl} (hi : runsR d l i = some out) (h7 : highB d l (d.first + i) < lowB d l (d.first + i)) : ∀ n, i + 1 ≤ n → runsR d l n = none := by
  intro n
  induction n with
  | zero => intro h; omega
  | succ n ih =>
    intro h
    by_cases hpn : i = n
    · rw [← hpn]; simp only [runsR, hi]; rw [Option.bind_some, if_pos h7]
    · simp only [runsR, ih (by omega)]; rfl
end Go.Proofs.Ytpnngbfmmjjnaaa
namespace Go.Proofs.Ytpnngbfmmjjnaaa
open Go.RowKit
set_option linter.unusedVariables false
set_option linter.unusedSimpArgs false

/-- A declaration such as the reference makes. -/
def DcT (d : Dc) : Prop := (-9 ≤ d.lo ∧ d.lo ≤ 0 ∧ d.lo ≤ d.hi ∧ d.hi ≤ d.lo + 16) ∧ (-3 ≤ d.down ∧ d.down ≤ 1 ∧ d.down ≤ d.up ∧ d.up ≤ d.down + 3) ∧ (0 ≤ d.first ∧ d.first ≤ 6 ∧ d.first ≤ d.last ∧ d.last ≤ d.first + 13)
theorem declOf_T (zs : List Int) : DcT (declOf zs) := by
  have a0 := pick_nn zs 0 10 (by omega)
  have b0 := pick_lt zs 0 10 (by omega)
  have a1 := pick_nn zs 1 5 (by omega)
  have b1 := pick_lt zs 1 5 (by omega)
  have a2 := pick_nn zs 2 7 (by omega)
  have b2 := pick_lt zs 2 7 (by omega)
  have a5 := pick_nn zs 5 17 (by omega)
  have b5 := pick_lt zs 5 17 (by omega)
  have a6 := pick_nn zs 6 4 (by omega)
  have b6 := pick_lt zs 6 4 (by omega)
  have a7 := pick_nn zs 7 14 (by omega)
  have b7 := pick_lt zs 7 14 (by omega)
  simp only [DcT, declOf]
  omega
def walkV (d : Dc) (zs : List Int) : Nat → Int
  | 0 => d.lo + pick zs 0 (d.hi - d.lo + 1)
  | n + 1 => walkV d zs n + d.down + pick zs (n + 1) (d.up - d.down + 1)
theorem walkV_bd (d : Dc) (zs : List Int) (h : DcT d) : ∀ n : Nat, -9 - 3 * (n : Int) ≤ walkV d zs n ∧ walkV d zs n ≤ 16 + 4 * (n : Int)
  | 0 => by
    obtain ⟨h1, h2, h3⟩ := h
    have a0 := pick_nn zs 0 (d.hi - d.lo + 1) (by omega)
    have b0 := pick_lt zs 0 (d.hi - d.lo + 1) (by omega)
    simp only [walkV]
    omega
  | n + 1 => by
    have ih := walkV_bd d zs h n
    obtain ⟨h1, h2, h3⟩ := h
    have a0 := pick_nn zs (n + 1) (d.up - d.down + 1) (by omega)
    have b0 := pick_lt zs (n + 1) (d.up - d.down + 1) (by omega)
    simp only [walkV]
    omega
def walkL (d : Dc) (zs : List Int) (n : Nat) : List Int := (List.range n).map (walkV d zs)
theorem walkL_len (d : Dc) (zs : List Int) (n : Nat) : (walkL d zs n).length = n := by simp [walkL]
theorem walkL_succ (d : Dc) (zs : List Int) (n : Nat) : walkL d zs (n + 1) = walkL d zs n ++ [walkV d zs n] := by simp [walkL, List.range_succ]
set_option maxRecDepth 10000 in
theorem walk_s (nm : ByteArray) (A : Option Addr) (ln c : Nat) (d : Dc) (v : Value) (zs : List Int) (w : World) (h : DcT d) (hv : Ints w v zs) :
    Con Try.prog 40 #[.agg (dcCells nm (.slice A ln c) d), v] w (RetRows rI 3 w (walkL d zs (d.last - d.first + 1).toNat)) := by
  obtain ⟨A1, c1, rfl, e1, e2⟩ := hv.form
  have hw := walkV_bd d zs h
  obtain ⟨h1, h2, h3⟩ := h
  have hw0 := hw 0
  have a0 := pick_nn zs 0 (d.hi - d.lo + 1) (by omega)
  have b0 := pick_lt zs 0 (d.hi - d.lo + 1) (by omega)
  refine enter tabOk mixed Try.func40 rfl Try.ntmps40 Try.results40 [.a (dcS nm (.v (.slice A ln c)) d), .s 0 1 zs.length c1] (fun _ => A1) [⟨0, false, 3, 1, c1, .rows Int rI zs⟩] 1 rfl rfl (.ro (hp0 _ _ _) _ rfl rfl rfl (ro_ints hv rfl _)) ?_
  ((conv=>whnf);(repeat(refine And.intro ?_ ?_;(focus((first|omega|exact⟨rfl,True.intro⟩|exact⟨rfl,rfl,True.intro⟩|rfl|(simp only[List.length_set];first|omega|(refine⟨?_,?_⟩<;>omega)|(refine⟨?_,?_,?_⟩<;>omega))|(intro hg;(try simp only[bB]at hg);first|omega|(refine⟨?_,?_⟩<;>omega)|(refine⟨?_,?_,?_⟩<;>first|omega|(show _<_;(try simp only[List.length_set]);omega)|exact leT rfl))|(refine⟨?_,?_⟩<;>omega)|(refine⟨?_,?_,?_⟩<;>first|omega|(show _<_;(try simp only[List.length_set]);omega)|exact leT rfl)|(simp only[show rI.d=(0:Int)from rfl];omega));done));(conv=>whnf))))
  (refine EvDraw.one (.q 0 (.q 1 (.q 2 (.q 3 (.q 4 (.q 5 (.q 6 (.q 7 (.q 8 (.n 9 false (.q 10 (.q 11 (.z))) (.e))))))))))) (by kernel_rfl) ?_)
  ((conv=>whnf);(repeat(refine And.intro ?_ ?_;(focus((first|omega|exact⟨rfl,True.intro⟩|exact⟨rfl,rfl,True.intro⟩|rfl|(simp only[List.length_set];first|omega|(refine⟨?_,?_⟩<;>omega)|(refine⟨?_,?_,?_⟩<;>omega))|(intro hg;(try simp only[bB]at hg);first|omega|(refine⟨?_,?_⟩<;>omega)|(refine⟨?_,?_,?_⟩<;>first|omega|(show _<_;(try simp only[List.length_set]);omega)|exact leT rfl))|(refine⟨?_,?_⟩<;>omega)|(refine⟨?_,?_,?_⟩<;>first|omega|(show _<_;(try simp only[List.length_set]);omega)|exact leT rfl)|(simp only[show rI.d=(0:Int)from rfl];omega));done));(conv=>whnf))))
  refine EvCall.plain Try.call38 (.v (.int .i64 (pick zs 0 (d.hi - d.lo + 1)))) rfl (fun ρ W hp => pick_s _ zs 0 _ W (hp.ints (n := 0) rfl e1 e2 hv.2) (by omega) (by omega) (by omega)) ?_
  ((conv=>whnf);(repeat(refine And.intro ?_ ?_;(focus((first|omega|exact⟨rfl,True.intro⟩|exact⟨rfl,rfl,True.intro⟩|rfl|(simp only[List.length_set];first|omega|(refine⟨?_,?_⟩<;>omega)|(refine⟨?_,?_,?_⟩<;>omega))|(intro hg;(try simp only[bB]at hg);first|omega|(refine⟨?_,?_⟩<;>omega)|(refine⟨?_,?_,?_⟩<;>first|omega|(show _<_;(try simp only[List.length_set]);omega)|exact leT rfl))|(refine⟨?_,?_⟩<;>omega)|(refine⟨?_,?_,?_⟩<;>first|omega|(show _<_;(try simp only[List.length_set]);omega)|exact leT rfl)|(simp only[show rI.d=(0:Int)from rfl];omega));done));(conv=>whnf))))
  refine EvLoop.inv (α := Nat × Nat) (fun p => d.first + p.1 ≤ d.last ∧ p.1 + 1 ≤ p.2 ∧ p.2 ≤ 9223372036854775807) (fun p => (d.last - d.first - p.1).toNat) (fun p => [(7, [], .v (.int .i64 (d.first + p.1))), (6, [], .s 2 1 (p.1 + 1) p.2), (5, [], .v (.int .i64 (walkV d zs p.1))), (2, [], .p 1 0), (1, [], .s 0 1 zs.length c1)])
    (fun p => [⟨2, true, 3, 1, p.2, .rows Int rI (walkL d zs (p.1 + 1))⟩, ⟨1, true, 27, 12, 1, .cs (dcS nm (.v (.slice A ln c)) d)⟩, ⟨0, false, 3, 1, c1, .rows Int rI zs⟩]) 3 (0, 1) ⟨by simp; omega, by simp, by decide⟩ (Sub.of [] [] rfl ?_) ?_
  · (repeat' (refine And.intro ?_ ?_)) <;> first | rfl | trivial | omega | (show _ = _ ; simp) | (intro ρ; rfl)
  intro p ⟨q1, q2, q3⟩
  have hwp := hw p.1
  have a1 := pick_nn zs (p.1 + 1) (d.up - d.down + 1) (by omega)
  have b1 := pick_lt zs (p.1 + 1) (d.up - d.down + 1) (by omega)
  have hll := walkL_len d zs (p.1 + 1)
  ((conv=>whnf);(repeat(refine And.intro ?_ ?_;(focus((first|omega|exact⟨rfl,True.intro⟩|exact⟨rfl,rfl,True.intro⟩|rfl|(simp only[List.length_set];first|omega|(refine⟨?_,?_⟩<;>omega)|(refine⟨?_,?_,?_⟩<;>omega))|(intro hg;(try simp only[bB]at hg);first|omega|(refine⟨?_,?_⟩<;>omega)|(refine⟨?_,?_,?_⟩<;>first|omega|(show _<_;(try simp only[List.length_set]);omega)|exact leT rfl))|(refine⟨?_,?_⟩<;>omega)|(refine⟨?_,?_,?_⟩<;>first|omega|(show _<_;(try simp only[List.length_set]);omega)|exact leT rfl)|(simp only[show rI.d=(0:Int)from rfl];omega));done));(conv=>whnf))))
  refine EvIf.split (fun g1 => ?_) (fun g1 => ?_)
  · simp only [decide_eq_true_eq] at g1
    ((conv=>whnf);(repeat(refine And.intro ?_ ?_;(focus((first|omega|exact⟨rfl,True.intro⟩|exact⟨rfl,rfl,True.intro⟩|rfl|(simp only[List.length_set];first|omega|(refine⟨?_,?_⟩<;>omega)|(refine⟨?_,?_,?_⟩<;>omega))|(intro hg;(try simp only[bB]at hg);first|omega|(refine⟨?_,?_⟩<;>omega)|(refine⟨?_,?_,?_⟩<;>first|omega|(show _<_;(try simp only[List.length_set]);omega)|exact leT rfl))|(refine⟨?_,?_⟩<;>omega)|(refine⟨?_,?_,?_⟩<;>first|omega|(show _<_;(try simp only[List.length_set]);omega)|exact leT rfl)|(simp only[show rI.d=(0:Int)from rfl];omega));done));(conv=>whnf))))
    (refine EvDraw.one (.q 0 (.q 1 (.q 2 (.q 3 (.q 4 (.q 5 (.q 6 (.q 7 (.q 8 (.q 9 (.q 10 (.q 11 (.q 12 (.q 13 (.q 14 (.q 15 (.n 16 false (.q 17 (.q 18 (.z))) (.e)))))))))))))))))) (by kernel_rfl) ?_)
    ((conv=>whnf);(repeat(refine And.intro ?_ ?_;(focus((first|omega|exact⟨rfl,True.intro⟩|exact⟨rfl,rfl,True.intro⟩|rfl|(simp only[List.length_set];first|omega|(refine⟨?_,?_⟩<;>omega)|(refine⟨?_,?_,?_⟩<;>omega))|(intro hg;(try simp only[bB]at hg);first|omega|(refine⟨?_,?_⟩<;>omega)|(refine⟨?_,?_,?_⟩<;>first|omega|(show _<_;(try simp only[List.length_set]);omega)|exact leT rfl))|(refine⟨?_,?_⟩<;>omega)|(refine⟨?_,?_,?_⟩<;>first|omega|(show _<_;(try simp only[List.length_set]);omega)|exact leT rfl)|(simp only[show rI.d=(0:Int)from rfl];omega));done));(conv=>whnf))))
    have hpk : ∀ ρ W, Hp (refOf w) ρ _ 3 W → Con Try.prog 38 (denL ρ [.s 0 1 zs.length c1, .v (.int .i64 (d.first + p.1 - d.first + 1)), .v (.int .i64 (d.up - d.down + 1))]).toArray W (Ret W (den ρ (.v (.int .i64 (pick zs (p.1 + 1) (d.up - d.down + 1)))))) := fun ρ W (hp : Hp (refOf w) ρ [⟨2, true, 3, 1, p.2, .rows Int rI (walkL d zs (p.1 + 1))⟩, ⟨1, true, 27, 12, 1, .cs (dcS nm (.v (.slice A ln c)) d)⟩, ⟨0, false, 3, 1, c1, .rows Int rI zs⟩] 3 W) => by
      have := pick_s _ zs (d.first + p.1 - d.first + 1) (d.up - d.down + 1) W (hp.ints (n := 0) rfl e1 e2 hv.2) (by omega) (by omega) (by omega)
      rw [show (d.first + (p.1 : Int) - d.first + 1).toNat = p.1 + 1 by omega] at this
      exact this
    refine EvCall.plain Try.call38 (.v (.int .i64 (pick zs (p.1 + 1) (d.up - d.down + 1)))) rfl hpk ?_
    ((conv=>whnf);(repeat(refine And.intro ?_ ?_;(focus((first|omega|exact⟨rfl,True.intro⟩|exact⟨rfl,rfl,True.intro⟩|rfl|(simp only[List.length_set];first|omega|(refine⟨?_,?_⟩<;>omega)|(refine⟨?_,?_,?_⟩<;>omega))|(intro hg;(try simp only[bB]at hg);first|omega|(refine⟨?_,?_⟩<;>omega)|(refine⟨?_,?_,?_⟩<;>first|omega|(show _<_;(try simp only[List.length_set]);omega)|exact leT rfl))|(refine⟨?_,?_⟩<;>omega)|(refine⟨?_,?_,?_⟩<;>first|omega|(show _<_;(try simp only[List.length_set]);omega)|exact leT rfl)|(simp only[show rI.d=(0:Int)from rfl];omega));done));(conv=>whnf))))
    refine EvBi.append (R := rI) tyok22 rfl tyok3 rfl (by decide) rfl rfl hll.symm (by rw [hll]; exact q2) [walkV d zs (p.1 + 1)] (fun ρ W hp => hp.lit (R := rI) (ys := [walkV d zs (p.1 + 1)]) rfl (by decide) (by simp) (by omega) rfl) (by rw [hll]; show (_ + 1) * 8 ≤ _; omega) (by rw [hll]; show _ + 1 ≤ _; omega) (fun cap' hq1 hq2 => ?_)
    rw [← walkL_succ, hll] at *
    ((conv=>whnf);(repeat(refine And.intro ?_ ?_;(focus((first|omega|exact⟨rfl,True.intro⟩|exact⟨rfl,rfl,True.intro⟩|rfl|(simp only[List.length_set];first|omega|(refine⟨?_,?_⟩<;>omega)|(refine⟨?_,?_,?_⟩<;>omega))|(intro hg;(try simp only[bB]at hg);first|omega|(refine⟨?_,?_⟩<;>omega)|(refine⟨?_,?_,?_⟩<;>first|omega|(show _<_;(try simp only[List.length_set]);omega)|exact leT rfl))|(refine⟨?_,?_⟩<;>omega)|(refine⟨?_,?_,?_⟩<;>first|omega|(show _<_;(try simp only[List.length_set]);omega)|exact leT rfl)|(simp only[show rI.d=(0:Int)from rfl];omega));done));(conv=>whnf))))
    refine LoopI.back (p.1 + 1, cap') ⟨by show d.first + ((p.1 + 1 : Nat) : Int) ≤ d.last; omega, hq1, hq2⟩ (by show (d.last - d.first - ((p.1 + 1 : Nat) : Int)).toNat < (d.last - d.first - (p.1 : Int)).toNat; omega) (Sub.of [(2, 4)] [] rfl ?_)
    (repeat' (refine And.intro ?_ ?_)) <;> first | rfl | trivial | omega
  · simp only [decide_eq_false_iff_not] at g1
    have hsp : (d.last - d.first + 1).toNat = p.1 + 1 := by omega
    rw [hsp]
    ((conv=>whnf);(repeat(refine And.intro ?_ ?_;(focus((first|omega|exact⟨rfl,True.intro⟩|exact⟨rfl,rfl,True.intro⟩|rfl|(simp only[List.length_set];first|omega|(refine⟨?_,?_⟩<;>omega)|(refine⟨?_,?_,?_⟩<;>omega))|(intro hg;(try simp only[bB]at hg);first|omega|(refine⟨?_,?_⟩<;>omega)|(refine⟨?_,?_,?_⟩<;>first|omega|(show _<_;(try simp only[List.length_set]);omega)|exact leT rfl))|(refine⟨?_,?_⟩<;>omega)|(refine⟨?_,?_,?_⟩<;>first|omega|(show _<_;(try simp only[List.length_set]);omega)|exact leT rfl)|(simp only[show rI.d=(0:Int)from rfl];omega));done));(conv=>whnf))))
    exact EvRet.rows (R := rI) hll.symm (by rw [hll]; exact q2) rfl rfl
end Go.Proofs.Ytpnngbfmmjjnaaa
namespace Go.Proofs.Ytpnngbfmmjjnaaa
open Go.RowKit
set_option linter.unusedVariables false
set_option linter.unusedSimpArgs false

def insN (d : Dc) (a x : Int) : Int := if a + d.down + x < d.lo then max (a + d.down) (min d.lo (a + d.up)) else max (min (min (a + d.down + x) d.hi) (a + d.up)) (a + d.down)
def insV (d : Dc) (zs : List Int) : Nat → Int
  | 0 => walkV d zs 0
  | n + 1 => insN d (insV d zs n) (pick zs (n + 1) (d.up - d.down + 1))
theorem insN_bd (d : Dc) (a x : Int) (h : d.down ≤ d.up) : a + d.down ≤ insN d a x ∧ insN d a x ≤ a + d.up := by
  unfold insN
  split <;> omega
theorem insV_bd (d : Dc) (zs : List Int) (h : DcT d) : ∀ n : Nat, -9 - 3 * (n : Int) ≤ insV d zs n ∧ insV d zs n ≤ 16 + 4 * (n : Int)
  | 0 => walkV_bd d zs h 0
  | n + 1 => by
    have ih := insV_bd d zs h n
    obtain ⟨h1, h2, h3⟩ := h
    have := insN_bd d (insV d zs n) (pick zs (n + 1) (d.up - d.down + 1)) (by omega)
    simp only [insV]
    omega
def insL (d : Dc) (zs : List Int) (n : Nat) : List Int := (List.range n).map (insV d zs)
theorem insL_len (d : Dc) (zs : List Int) (n : Nat) : (insL d zs n).length = n := by simp [insL]
theorem mix_start (d : Dc) (zs : List Int) (n : Nat) : walkL d zs n = mixL (insV d zs) (walkV d zs) n 1 := by
  apply List.map_congr_left
  intro i hi
  by_cases h : i < 1
  · obtain rfl : i = 0 := by omega
    simp [insV]
  · rw [if_neg h]
theorem mix_end (d : Dc) (zs : List Int) (n : Nat) : mixL (insV d zs) (walkV d zs) n n = insL d zs n := by
  apply List.map_congr_left
  intro i hi
  rw [if_pos (List.mem_range.1 hi)]
set_option maxRecDepth 10000 in
theorem inside_s (nm : ByteArray) (A : Option Addr) (ln c : Nat) (d : Dc) (v : Value) (zs : List Int) (w : World) (h : DcT d) (hv : Ints w v zs) :
    Con Try.prog 13 #[.agg (dcCells nm (.slice A ln c) d), v] w (RetRows rI 3 w (insL d zs (d.last - d.first + 1).toNat)) := by
  obtain ⟨A1, c1, rfl, e1, e2⟩ := hv.form
  have hw := insV_bd d zs h
  have hT := h
  obtain ⟨h1, h2, h3⟩ := h
  obtain ⟨sp, hsp⟩ : ∃ sp : Nat, (d.last - d.first + 1).toNat = sp := ⟨_, rfl⟩
  rw [hsp]
  refine enter tabOk mixed Try.func13 rfl Try.ntmps13 Try.results13 [.a (dcS nm (.v (.slice A ln c)) d), .s 0 1 zs.length c1] (fun _ => A1) [⟨0, false, 3, 1, c1, .rows Int rI zs⟩] 1 rfl rfl (.ro (hp0 _ _ _) _ rfl rfl rfl (ro_ints hv rfl _)) ?_
  ((conv=>whnf);(repeat(refine And.intro ?_ ?_;(focus((first|omega|exact⟨rfl,True.intro⟩|exact⟨rfl,rfl,True.intro⟩|rfl|(simp only[List.length_set];first|omega|(refine⟨?_,?_⟩<;>omega)|(refine⟨?_,?_,?_⟩<;>omega))|(intro hg;(try simp only[bB]at hg);first|omega|(refine⟨?_,?_⟩<;>omega)|(refine⟨?_,?_,?_⟩<;>first|omega|(show _<_;(try simp only[List.length_set]);omega)|exact leT rfl))|(refine⟨?_,?_⟩<;>omega)|(refine⟨?_,?_,?_⟩<;>first|omega|(show _<_;(try simp only[List.length_set]);omega)|exact leT rfl)|(simp only[show rI.d=(0:Int)from rfl];omega));done));(conv=>whnf))))
  refine EvCall.rows (R := rI) (ty := 3) (xs := walkL d zs sp) Try.call40 (fun ρ W hp => by rw [← hsp]; exact walk_s nm A ln c d _ zs W hT (hp.ints (n := 0) rfl e1 e2 hv.2)) (fun cap hc1 hc2 => ?_)
  rw [walkL_len] at hc1 ⊢
  rw [mix_start]
  ((conv=>whnf);(repeat(refine And.intro ?_ ?_;(focus((first|omega|exact⟨rfl,True.intro⟩|exact⟨rfl,rfl,True.intro⟩|rfl|(simp only[List.length_set];first|omega|(refine⟨?_,?_⟩<;>omega)|(refine⟨?_,?_,?_⟩<;>omega))|(intro hg;(try simp only[bB]at hg);first|omega|(refine⟨?_,?_⟩<;>omega)|(refine⟨?_,?_,?_⟩<;>first|omega|(show _<_;(try simp only[List.length_set]);omega)|exact leT rfl))|(refine⟨?_,?_⟩<;>omega)|(refine⟨?_,?_,?_⟩<;>first|omega|(show _<_;(try simp only[List.length_set]);omega)|exact leT rfl)|(simp only[show rI.d=(0:Int)from rfl];omega));done));(conv=>whnf))))
  refine EvLoop.inv (α := Nat) (fun i => i + 1 ≤ sp) (fun i => sp - i) (fun i => [(6, [], .v (.int .i64 ((i + 1 : Nat) : Int))), (5, [], .s 2 1 sp cap), (2, [], .p 1 0), (1, [], .s 0 1 zs.length c1)])
    (fun i => [⟨2, true, 3, 1, cap, .rows Int rI (mixL (insV d zs) (walkV d zs) sp (i + 1))⟩, ⟨1, true, 27, 12, 1, .cs (dcS nm (.v (.slice A ln c)) d)⟩, ⟨0, false, 3, 1, c1, .rows Int rI zs⟩]) 3 0 (by omega) (Sub.of [] [] rfl ?_) ?_
  · (repeat' (refine And.intro ?_ ?_)) <;> first | rfl | trivial | omega
  intro i hi
  have hwp := hw i
  have a1 := pick_nn zs (i + 1) (d.up - d.down + 1) (by omega)
  have b1 := pick_lt zs (i + 1) (d.up - d.down + 1) (by omega)
  have hll := mixL_len (insV d zs) (walkV d zs) sp (i + 1)
  have hget : (mixL (insV d zs) (walkV d zs) sp (i + 1)).getD (Int.toNat (((i + 1 : Nat) : Int) - 1)) rI.d = insV d zs i := by
    rw [show Int.toNat (((i + 1 : Nat) : Int) - 1) = i by omega, mixL_get _ _ _ _ _ _ (by omega), if_pos (by omega)]
  ((conv=>whnf);(repeat(refine And.intro ?_ ?_;(focus((first|omega|exact⟨rfl,True.intro⟩|exact⟨rfl,rfl,True.intro⟩|rfl|(simp only[List.length_set];first|omega|(refine⟨?_,?_⟩<;>omega)|(refine⟨?_,?_,?_⟩<;>omega))|(intro hg;(try simp only[bB]at hg);first|omega|(refine⟨?_,?_⟩<;>omega)|(refine⟨?_,?_,?_⟩<;>first|omega|(show _<_;(try simp only[List.length_set]);omega)|exact leT rfl))|(refine⟨?_,?_⟩<;>omega)|(refine⟨?_,?_,?_⟩<;>first|omega|(show _<_;(try simp only[List.length_set]);omega)|exact leT rfl)|(simp only[show rI.d=(0:Int)from rfl];omega));done));(conv=>whnf))))
  refine EvIf.split (fun g1 => ?_) (fun g1 => ?_)
  · simp only [decide_eq_true_eq] at g1
    ((conv=>whnf);(repeat(refine And.intro ?_ ?_;(focus((first|omega|exact⟨rfl,True.intro⟩|exact⟨rfl,rfl,True.intro⟩|rfl|(simp only[List.length_set];first|omega|(refine⟨?_,?_⟩<;>omega)|(refine⟨?_,?_,?_⟩<;>omega))|(intro hg;(try simp only[bB]at hg);first|omega|(refine⟨?_,?_⟩<;>omega)|(refine⟨?_,?_,?_⟩<;>first|omega|(show _<_;(try simp only[List.length_set]);omega)|exact leT rfl))|(refine⟨?_,?_⟩<;>omega)|(refine⟨?_,?_,?_⟩<;>first|omega|(show _<_;(try simp only[List.length_set]);omega)|exact leT rfl)|(simp only[show rI.d=(0:Int)from rfl];omega));done));(conv=>whnf))))
    (refine EvDraw.one (.q 0 (.q 1 (.q 2 (.q 3 (.q 4 (.q 5 (.q 6 (.q 7 (.q 8 (.q 9 (.q 10 (.q 11 (.q 12 (.q 13 (.q 14 (.q 15 (.n 16 false (.q 17 (.q 18 (.z))) (.e)))))))))))))))))) (by kernel_rfl) ?_)
    ((conv=>whnf);(repeat(refine And.intro ?_ ?_;(focus((first|omega|exact⟨rfl,True.intro⟩|exact⟨rfl,rfl,True.intro⟩|rfl|(simp only[List.length_set];first|omega|(refine⟨?_,?_⟩<;>omega)|(refine⟨?_,?_,?_⟩<;>omega))|(intro hg;(try simp only[bB]at hg);first|omega|(refine⟨?_,?_⟩<;>omega)|(refine⟨?_,?_,?_⟩<;>first|omega|(show _<_;(try simp only[List.length_set]);omega)|exact leT rfl))|(refine⟨?_,?_⟩<;>omega)|(refine⟨?_,?_,?_⟩<;>first|omega|(show _<_;(try simp only[List.length_set]);omega)|exact leT rfl)|(simp only[show rI.d=(0:Int)from rfl];omega));done));(conv=>whnf))))
    refine EvCall.plain Try.call38 (.v (.int .i64 (pick zs (i + 1) (d.up - d.down + 1)))) rfl (fun ρ W hp => pick_s _ zs ((i + 1 : Nat) : Int) _ W (hp.ints (n := 0) rfl e1 e2 hv.2) (by omega) (by omega) (by omega)) ?_
    ((conv=>whnf);(repeat(refine And.intro ?_ ?_;(focus((first|omega|exact⟨rfl,True.intro⟩|exact⟨rfl,rfl,True.intro⟩|rfl|(simp only[List.length_set];first|omega|(refine⟨?_,?_⟩<;>omega)|(refine⟨?_,?_,?_⟩<;>omega))|(intro hg;(try simp only[bB]at hg);first|omega|(refine⟨?_,?_⟩<;>omega)|(refine⟨?_,?_,?_⟩<;>first|omega|(show _<_;(try simp only[List.length_set]);omega)|exact leT rfl))|(refine⟨?_,?_⟩<;>omega)|(refine⟨?_,?_,?_⟩<;>first|omega|(show _<_;(try simp only[List.length_set]);omega)|exact leT rfl)|(simp only[show rI.d=(0:Int)from rfl];omega));done));(conv=>whnf))))
    obtain ⟨x, hx⟩ : ∃ x, pick zs (i + 1) (d.up - d.down + 1) = x := ⟨_, rfl⟩
    have hin : insV d zs (i + 1) = insN d (insV d zs i) x := by rw [← hx]; rfl
    rw [hx] at a1 b1 ⊢
    obtain ⟨R1, hR1⟩ : ∃ R1, (mixL (insV d zs) (walkV d zs) sp (i + 1)).set (i + 1) (max (min (min (insV d zs i + d.down + x) d.hi) (insV d zs i + d.up)) (insV d zs i + d.down)) = R1 := ⟨_, rfl⟩
    refine EvDraw.meet (.q 0 (.q 1 (.q 2 (.q 3 (.q 4 (.q 5 (.q 6 (.q 7 (.q 8 (.q 9 (.q 10 (.q 11 (.q 12 (.q 13 (.q 14 (.q 15 (.q 16 (.q 17 (.q 18 (.q 19 (.q 20 (.q 21 (.q 22 (.q 23 (.n 24 true (.z) (.e)))))))))))))))))))))))))) (by kernel_rfl) (α := Unit) (fun _ => True)
      (fun _ => [(7, [], .v (.int .i64 (insV d zs i + d.down + x))), (6, [], .v (.int .i64 (((i + 1 : Nat) : Int)))), (5, [], .s 2 1 sp cap), (2, [], .p 1 0), (1, [], .s 0 1 zs.length c1)])
      (fun _ => [⟨2, true, 3, 1, cap, .rows Int rI (R1)⟩, ⟨1, true, 27, 12, 1, .cs (dcS nm (.v (.slice A ln c)) d)⟩, ⟨0, false, 3, 1, c1, .rows Int rI (zs)⟩]) 3 ?_ ?_
    · ((conv=>whnf);(repeat(refine And.intro ?_ ?_;(focus((first|omega|exact⟨rfl,True.intro⟩|exact⟨rfl,rfl,True.intro⟩|rfl|(simp only[List.length_set];first|omega|(refine⟨?_,?_⟩<;>omega)|(refine⟨?_,?_,?_⟩<;>omega))|(intro hg;(try simp only[bB]at hg);first|omega|(refine⟨?_,?_⟩<;>omega)|(refine⟨?_,?_,?_⟩<;>first|omega|(show _<_;(try simp only[List.length_set]);omega)|exact leT rfl))|(refine⟨?_,?_⟩<;>omega)|(refine⟨?_,?_,?_⟩<;>first|omega|(show _<_;(try simp only[List.length_set]);omega)|exact leT rfl)|(simp only[show rI.d=(0:Int)from rfl];omega));done));(conv=>whnf))))
      refine Exists.intro () (And.intro trivial (Sub.of [] [] rfl ?_))
      (repeat' (refine And.intro ?_ ?_)) <;> first | rfl | trivial | omega | (rw [← hR1]; simp only [hget]; rfl)
    intro _ _
    have hR1l : R1.length = sp := by rw [← hR1, List.length_set, hll]
    have hget2 : R1.getD (Int.toNat (((i + 1 : Nat) : Int) - 1)) rI.d = insV d zs i := by
      rw [← hR1, ← hget, List.getD_eq_getElem?_getD, List.getElem?_set_ne (by omega), ← List.getD_eq_getElem?_getD]
    ((conv=>whnf);(repeat(refine And.intro ?_ ?_;(focus((first|omega|exact⟨rfl,True.intro⟩|exact⟨rfl,rfl,True.intro⟩|rfl|(simp only[List.length_set];first|omega|(refine⟨?_,?_⟩<;>omega)|(refine⟨?_,?_,?_⟩<;>omega))|(intro hg;(try simp only[bB]at hg);first|omega|(refine⟨?_,?_⟩<;>omega)|(refine⟨?_,?_,?_⟩<;>first|omega|(show _<_;(try simp only[List.length_set]);omega)|exact leT rfl))|(refine⟨?_,?_⟩<;>omega)|(refine⟨?_,?_,?_⟩<;>first|omega|(show _<_;(try simp only[List.length_set]);omega)|exact leT rfl)|(simp only[show rI.d=(0:Int)from rfl];omega));done));(conv=>whnf))))
    refine EvIf.split (fun g2 => ?_) (fun g2 => ?_)
    · simp only [decide_eq_true_eq] at g2
      ((conv=>whnf);(repeat(refine And.intro ?_ ?_;(focus((first|omega|exact⟨rfl,True.intro⟩|exact⟨rfl,rfl,True.intro⟩|rfl|(simp only[List.length_set];first|omega|(refine⟨?_,?_⟩<;>omega)|(refine⟨?_,?_,?_⟩<;>omega))|(intro hg;(try simp only[bB]at hg);first|omega|(refine⟨?_,?_⟩<;>omega)|(refine⟨?_,?_,?_⟩<;>first|omega|(show _<_;(try simp only[List.length_set]);omega)|exact leT rfl))|(refine⟨?_,?_⟩<;>omega)|(refine⟨?_,?_,?_⟩<;>first|omega|(show _<_;(try simp only[List.length_set]);omega)|exact leT rfl)|(simp only[show rI.d=(0:Int)from rfl];omega));done));(conv=>whnf))))
      have hfin : R1.set (i + 1) (max (insV d zs i + d.down) (min d.lo (insV d zs i + d.up))) = mixL (insV d zs) (walkV d zs) sp (i + 2) := by
        rw [← mixL_set _ _ _ _ (by omega : i + 1 < sp), hin, ← hR1, List.set_set, insN, if_pos (by omega)]
      (refine EvDraw.one (.q 0 (.q 1 (.q 2 (.q 3 (.q 4 (.q 5 (.q 6 (.q 7 (.q 8 (.q 9 (.q 10 (.q 11 (.q 12 (.q 13 (.q 14 (.q 15 (.q 16 (.q 17 (.q 18 (.q 19 (.q 20 (.q 21 (.q 22 (.n 23 true (.z) (.e))))))))))))))))))))))))) (by kernel_rfl) ?_)
      ((conv=>whnf);(repeat(refine And.intro ?_ ?_;(focus((first|omega|exact⟨rfl,True.intro⟩|exact⟨rfl,rfl,True.intro⟩|rfl|(simp only[List.length_set];first|omega|(refine⟨?_,?_⟩<;>omega)|(refine⟨?_,?_,?_⟩<;>omega))|(intro hg;(try simp only[bB]at hg);first|omega|(refine⟨?_,?_⟩<;>omega)|(refine⟨?_,?_,?_⟩<;>first|omega|(show _<_;(try simp only[List.length_set]);omega)|exact leT rfl))|(refine⟨?_,?_⟩<;>omega)|(refine⟨?_,?_,?_⟩<;>first|omega|(show _<_;(try simp only[List.length_set]);omega)|exact leT rfl)|(simp only[show rI.d=(0:Int)from rfl];omega));done));(conv=>whnf))))
      refine LoopI.back (i + 1) (by omega) (by omega) (Sub.of [] [] rfl ?_)
      (repeat' (refine And.intro ?_ ?_)) <;> first | rfl | trivial | omega | (rw [← hfin]; simp only [hget2]; rfl)
    · simp only [decide_eq_false_iff_not] at g2
      have hfin : R1 = mixL (insV d zs) (walkV d zs) sp (i + 2) := by
        rw [← mixL_set _ _ _ _ (by omega : i + 1 < sp), hin, ← hR1, insN, if_neg (by omega)]
      rw [hfin]
      ((conv=>whnf);(repeat(refine And.intro ?_ ?_;(focus((first|omega|exact⟨rfl,True.intro⟩|exact⟨rfl,rfl,True.intro⟩|rfl|(simp only[List.length_set];first|omega|(refine⟨?_,?_⟩<;>omega)|(refine⟨?_,?_,?_⟩<;>omega))|(intro hg;(try simp only[bB]at hg);first|omega|(refine⟨?_,?_⟩<;>omega)|(refine⟨?_,?_,?_⟩<;>first|omega|(show _<_;(try simp only[List.length_set]);omega)|exact leT rfl))|(refine⟨?_,?_⟩<;>omega)|(refine⟨?_,?_,?_⟩<;>first|omega|(show _<_;(try simp only[List.length_set]);omega)|exact leT rfl)|(simp only[show rI.d=(0:Int)from rfl];omega));done));(conv=>whnf))))
      refine LoopI.back (i + 1) (by omega) (by omega) (Sub.of [] [] rfl ?_)
      (repeat' (refine And.intro ?_ ?_)) <;> first | rfl | trivial | omega
  · simp only [decide_eq_false_iff_not] at g1
    obtain rfl : sp = i + 1 := by omega
    rw [← mix_end]
    ((conv=>whnf);(repeat(refine And.intro ?_ ?_;(focus((first|omega|exact⟨rfl,True.intro⟩|exact⟨rfl,rfl,True.intro⟩|rfl|(simp only[List.length_set];first|omega|(refine⟨?_,?_⟩<;>omega)|(refine⟨?_,?_,?_⟩<;>omega))|(intro hg;(try simp only[bB]at hg);first|omega|(refine⟨?_,?_⟩<;>omega)|(refine⟨?_,?_,?_⟩<;>first|omega|(show _<_;(try simp only[List.length_set]);omega)|exact leT rfl))|(refine⟨?_,?_⟩<;>omega)|(refine⟨?_,?_,?_⟩<;>first|omega|(show _<_;(try simp only[List.length_set]);omega)|exact leT rfl)|(simp only[show rI.d=(0:Int)from rfl];omega));done));(conv=>whnf))))
    exact EvRet.rows (R := rI) hll.symm (by rw [hll]; exact hc1) rfl rfl
end Go.Proofs.Ytpnngbfmmjjnaaa
namespace Go.Proofs.Ytpnngbfmmjjnaaa
open Go.RowKit
set_option linter.unusedVariables false
set_option linter.unusedSimpArgs false

/-- One of the wild claims. -/
def wildC (d : Dc) (zs : List Int) (i : Int) : Cl :=
  ⟨d.first + arnd (zs.getD i.toNat 0) (d.last - d.first + 1), d.first + min (d.last - d.first + 1 - 1) (arnd (zs.getD i.toNat 0) (d.last - d.first + 1) + arnd (zs.getD (i + 1).toNat 0) 4),
    d.lo - 2 + arnd (zs.getD (i + 2).toNat 0) (d.hi - d.lo + 4), d.lo - 2 + arnd (zs.getD (i + 2).toNat 0) (d.hi - d.lo + 4) + arnd (zs.getD (i + 3).toNat 0) 9⟩
def wildL (d : Dc) (zs : List Int) (k : Nat) : List Cl := (List.range k).map fun j : Nat => wildC d zs (4 * (j : Int))
def wildN (zs : List Int) (m : Nat) : Nat := min (zs.length / 4) m
theorem wildL_len (d : Dc) (zs : List Int) (k : Nat) : (wildL d zs k).length = k := by simp [wildL]
theorem wildL_succ (d : Dc) (zs : List Int) (k : Nat) : wildL d zs (k + 1) = wildL d zs k ++ [wildC d zs (4 * (k : Int))] := by simp [wildL, List.range_succ]
set_option maxRecDepth 10000 in
theorem wild_s (nm : ByteArray) (A : Option Addr) (ln c : Nat) (d : Dc) (v : Value) (zs : List Int) (m : Nat) (w : World) (h : DcT d) (hv : Ints w v zs) (hm : m ≤ 100) :
    Con Try.prog 58 #[.agg (dcCells nm (.slice A ln c) d), v, .int .i64 (m : Int)] w (RetRows rC 62 w (wildL d zs (wildN zs m))) := by
  obtain ⟨A1, c1, rfl, e1, e2⟩ := hv.form
  obtain ⟨h1, h2, h3⟩ := h
  refine enter tabOk mixed Try.func58 rfl Try.ntmps58 Try.results58 [.a (dcS nm (.v (.slice A ln c)) d), .s 0 1 zs.length c1, .v (.int .i64 (m : Int))] (fun _ => A1) [⟨0, false, 3, 1, c1, .rows Int rI (zs)⟩] 1 rfl rfl (.ro (hp0 _ _ _) _ rfl rfl rfl (ro_ints hv rfl _)) ?_
  ((conv=>whnf);(repeat(refine And.intro ?_ ?_;(focus((first|omega|exact⟨rfl,True.intro⟩|exact⟨rfl,rfl,True.intro⟩|rfl|(simp only[List.length_set];first|omega|(refine⟨?_,?_⟩<;>omega)|(refine⟨?_,?_,?_⟩<;>omega))|(intro hg;(try simp only[bB]at hg);first|omega|(refine⟨?_,?_⟩<;>omega)|(refine⟨?_,?_,?_⟩<;>first|omega|(show _<_;(try simp only[List.length_set]);omega)|exact leT rfl))|(refine⟨?_,?_⟩<;>omega)|(refine⟨?_,?_,?_⟩<;>first|omega|(show _<_;(try simp only[List.length_set]);omega)|exact leT rfl)|(simp only[show rI.d=(0:Int)from rfl];omega));done));(conv=>whnf))))
  refine EvLoop.inv (α := Nat × Nat) (fun p => p.1 ≤ wildN zs m ∧ p.1 ≤ p.2 ∧ p.2 ≤ 9223372036854775807) (fun p => wildN zs m - p.1)
    (fun p => [(9, [], .v (.int .i64 (4 * (p.1 : Int)))), (7, [], .s 2 4 p.1 p.2), (8, [], .v (.int .i64 (d.last - d.first + 1))), (3, [], .p 1 0), (1, [], .s 0 1 zs.length c1), (2, [], .v (.int .i64 ((m : Int))))])
    (fun p => [⟨2, true, 62, 4, p.2, .rows Cl rC (wildL d zs p.1)⟩, ⟨1, true, 27, 12, 1, .cs (dcS nm (.v (.slice A ln c)) d)⟩, ⟨0, false, 3, 1, c1, .rows Int rI (zs)⟩]) 3 (0, 0) ⟨by simp, by simp, by decide⟩ (Sub.of [] [2] rfl ?_) ?_
  · (repeat' (refine And.intro ?_ ?_)) <;> first | rfl | trivial | omega | (show _ = _ ; simp)
  intro p ⟨q1, q2, q3⟩
  have hll := wildL_len d zs p.1
  have hwn : wildN zs m ≤ m ∧ 4 * wildN zs m ≤ zs.length ∧ (p.1 < wildN zs m ∨ m ≤ p.1 ∨ zs.length < 4 * (p.1 + 1)) := by unfold wildN; omega
  ((conv=>whnf);(repeat(refine And.intro ?_ ?_;(focus((first|omega|exact⟨rfl,True.intro⟩|exact⟨rfl,rfl,True.intro⟩|rfl|(simp only[List.length_set];first|omega|(refine⟨?_,?_⟩<;>omega)|(refine⟨?_,?_,?_⟩<;>omega))|(intro hg;(try simp only[bB]at hg);first|omega|(refine⟨?_,?_⟩<;>omega)|(refine⟨?_,?_,?_⟩<;>first|omega|(show _<_;(try simp only[List.length_set]);omega)|exact leT rfl))|(refine⟨?_,?_⟩<;>omega)|(refine⟨?_,?_,?_⟩<;>first|omega|(show _<_;(try simp only[List.length_set]);omega)|exact leT rfl)|(simp only[show rI.d=(0:Int)from rfl];omega));done));(conv=>whnf))))
  refine EvIf.split (fun g1 => ?_) (fun g1 => ?_)
  · simp only [Bool.and_eq_true, decide_eq_true_eq] at g1
    have i0 := hv.i64 (k := Int.toNat (4 * (p.1 : Int))) (by omega)
    have i1 := hv.i64 (k := Int.toNat (4 * (p.1 : Int) + 1)) (by omega)
    have i2 := hv.i64 (k := Int.toNat (4 * (p.1 : Int) + 2)) (by omega)
    have i3 := hv.i64 (k := Int.toNat (4 * (p.1 : Int) + 3)) (by omega)
    have a0 := arnd_nn (zs.getD (Int.toNat (4 * (p.1 : Int))) 0) (d.last - d.first + 1) (by omega)
    have b0 := arnd_lt (zs.getD (Int.toNat (4 * (p.1 : Int))) 0) (d.last - d.first + 1) (by omega)
    have a1 := arnd_nn (zs.getD (Int.toNat (4 * (p.1 : Int) + 1)) 0) 4 (by omega)
    have b1 := arnd_lt (zs.getD (Int.toNat (4 * (p.1 : Int) + 1)) 0) 4 (by omega)
    have a2 := arnd_nn (zs.getD (Int.toNat (4 * (p.1 : Int) + 2)) 0) (d.hi - d.lo + 4) (by omega)
    have b2 := arnd_lt (zs.getD (Int.toNat (4 * (p.1 : Int) + 2)) 0) (d.hi - d.lo + 4) (by omega)
    have a3 := arnd_nn (zs.getD (Int.toNat (4 * (p.1 : Int) + 3)) 0) 9 (by omega)
    have b3 := arnd_lt (zs.getD (Int.toNat (4 * (p.1 : Int) + 3)) 0) 9 (by omega)
    ((conv=>whnf);(repeat(refine And.intro ?_ ?_;(focus((first|omega|exact⟨rfl,True.intro⟩|exact⟨rfl,rfl,True.intro⟩|rfl|(simp only[List.length_set];first|omega|(refine⟨?_,?_⟩<;>omega)|(refine⟨?_,?_,?_⟩<;>omega))|(intro hg;(try simp only[bB]at hg);first|omega|(refine⟨?_,?_⟩<;>omega)|(refine⟨?_,?_,?_⟩<;>first|omega|(show _<_;(try simp only[List.length_set]);omega)|exact leT rfl))|(refine⟨?_,?_⟩<;>omega)|(refine⟨?_,?_,?_⟩<;>first|omega|(show _<_;(try simp only[List.length_set]);omega)|exact leT rfl)|(simp only[show rI.d=(0:Int)from rfl];omega));done));(conv=>whnf))))
    refine EvCall.plain Try.call17 (.v (.int .i64 (arnd (zs.getD (Int.toNat (4 * (p.1 : Int))) 0) (d.last - d.first + 1)))) rfl (fun ρ W hp => around_s _ _ _ i0 (by omega) (by omega)) ?_
    ((conv=>whnf);(repeat(refine And.intro ?_ ?_;(focus((first|omega|exact⟨rfl,True.intro⟩|exact⟨rfl,rfl,True.intro⟩|rfl|(simp only[List.length_set];first|omega|(refine⟨?_,?_⟩<;>omega)|(refine⟨?_,?_,?_⟩<;>omega))|(intro hg;(try simp only[bB]at hg);first|omega|(refine⟨?_,?_⟩<;>omega)|(refine⟨?_,?_,?_⟩<;>first|omega|(show _<_;(try simp only[List.length_set]);omega)|exact leT rfl))|(refine⟨?_,?_⟩<;>omega)|(refine⟨?_,?_,?_⟩<;>first|omega|(show _<_;(try simp only[List.length_set]);omega)|exact leT rfl)|(simp only[show rI.d=(0:Int)from rfl];omega));done));(conv=>whnf))))
    (refine EvDraw.one (.q 0 (.q 1 (.q 2 (.q 3 (.q 4 (.q 5 (.q 6 (.q 7 (.q 8 (.q 9 (.q 10 (.q 11 (.q 12 (.q 13 (.n 14 false (.q 15 (.q 16 (.z))) (.e)))))))))))))))) (by kernel_rfl) ?_)
    ((conv=>whnf);(repeat(refine And.intro ?_ ?_;(focus((first|omega|exact⟨rfl,True.intro⟩|exact⟨rfl,rfl,True.intro⟩|rfl|(simp only[List.length_set];first|omega|(refine⟨?_,?_⟩<;>omega)|(refine⟨?_,?_,?_⟩<;>omega))|(intro hg;(try simp only[bB]at hg);first|omega|(refine⟨?_,?_⟩<;>omega)|(refine⟨?_,?_,?_⟩<;>first|omega|(show _<_;(try simp only[List.length_set]);omega)|exact leT rfl))|(refine⟨?_,?_⟩<;>omega)|(refine⟨?_,?_,?_⟩<;>first|omega|(show _<_;(try simp only[List.length_set]);omega)|exact leT rfl)|(simp only[show rI.d=(0:Int)from rfl];omega));done));(conv=>whnf))))
    refine EvCall.plain Try.call17 (.v (.int .i64 (arnd (zs.getD (Int.toNat (4 * (p.1 : Int) + 2)) 0) (d.hi - d.lo + 4)))) rfl (fun ρ W hp => around_s _ _ _ i2 (by omega) (by omega)) ?_
    ((conv=>whnf);(repeat(refine And.intro ?_ ?_;(focus((first|omega|exact⟨rfl,True.intro⟩|exact⟨rfl,rfl,True.intro⟩|rfl|(simp only[List.length_set];first|omega|(refine⟨?_,?_⟩<;>omega)|(refine⟨?_,?_,?_⟩<;>omega))|(intro hg;(try simp only[bB]at hg);first|omega|(refine⟨?_,?_⟩<;>omega)|(refine⟨?_,?_,?_⟩<;>first|omega|(show _<_;(try simp only[List.length_set]);omega)|exact leT rfl))|(refine⟨?_,?_⟩<;>omega)|(refine⟨?_,?_,?_⟩<;>first|omega|(show _<_;(try simp only[List.length_set]);omega)|exact leT rfl)|(simp only[show rI.d=(0:Int)from rfl];omega));done));(conv=>whnf))))
    (refine EvDraw.one (.q 0 (.q 1 (.q 2 (.q 3 (.q 4 (.q 5 (.q 6 (.q 7 (.q 8 (.q 9 (.q 10 (.q 11 (.q 12 (.q 13 (.q 14 (.q 19 (.q 20 (.q 21 (.q 22 (.q 23 (.q 24 (.q 25 (.n 15 false (.q 16 (.q 17 (.q 18 (.n 26 false (.q 27 (.q 28 (.n 29 false (.n 30 true (.q 31 (.z)) (.e)) (.e)))) (.e))))) (.e)))))))))))))))))))))))) (by kernel_rfl) ?_)
    ((conv=>whnf);(repeat(refine And.intro ?_ ?_;(focus((first|omega|exact⟨rfl,True.intro⟩|exact⟨rfl,rfl,True.intro⟩|rfl|(simp only[List.length_set];first|omega|(refine⟨?_,?_⟩<;>omega)|(refine⟨?_,?_,?_⟩<;>omega))|(intro hg;(try simp only[bB]at hg);first|omega|(refine⟨?_,?_⟩<;>omega)|(refine⟨?_,?_,?_⟩<;>first|omega|(show _<_;(try simp only[List.length_set]);omega)|exact leT rfl))|(refine⟨?_,?_⟩<;>omega)|(refine⟨?_,?_,?_⟩<;>first|omega|(show _<_;(try simp only[List.length_set]);omega)|exact leT rfl)|(simp only[show rI.d=(0:Int)from rfl];omega));done));(conv=>whnf))))
    refine EvCall.plain Try.call17 (.v (.int .i64 (arnd (zs.getD (Int.toNat (4 * (p.1 : Int) + 1)) 0) 4))) rfl (fun ρ W hp => around_s _ _ _ i1 (by omega) (by omega)) ?_
    ((conv=>whnf);(repeat(refine And.intro ?_ ?_;(focus((first|omega|exact⟨rfl,True.intro⟩|exact⟨rfl,rfl,True.intro⟩|rfl|(simp only[List.length_set];first|omega|(refine⟨?_,?_⟩<;>omega)|(refine⟨?_,?_,?_⟩<;>omega))|(intro hg;(try simp only[bB]at hg);first|omega|(refine⟨?_,?_⟩<;>omega)|(refine⟨?_,?_,?_⟩<;>first|omega|(show _<_;(try simp only[List.length_set]);omega)|exact leT rfl))|(refine⟨?_,?_⟩<;>omega)|(refine⟨?_,?_,?_⟩<;>first|omega|(show _<_;(try simp only[List.length_set]);omega)|exact leT rfl)|(simp only[show rI.d=(0:Int)from rfl];omega));done));(conv=>whnf))))
    refine EvCall.plain Try.call17 (.v (.int .i64 (arnd (zs.getD (Int.toNat (4 * (p.1 : Int) + 3)) 0) 9))) rfl (fun ρ W hp => around_s _ _ _ i3 (by omega) (by omega)) ?_
    ((conv=>whnf);(repeat(refine And.intro ?_ ?_;(focus((first|omega|exact⟨rfl,True.intro⟩|exact⟨rfl,rfl,True.intro⟩|rfl|(simp only[List.length_set];first|omega|(refine⟨?_,?_⟩<;>omega)|(refine⟨?_,?_,?_⟩<;>omega))|(intro hg;(try simp only[bB]at hg);first|omega|(refine⟨?_,?_⟩<;>omega)|(refine⟨?_,?_,?_⟩<;>first|omega|(show _<_;(try simp only[List.length_set]);omega)|exact leT rfl))|(refine⟨?_,?_⟩<;>omega)|(refine⟨?_,?_,?_⟩<;>first|omega|(show _<_;(try simp only[List.length_set]);omega)|exact leT rfl)|(simp only[show rI.d=(0:Int)from rfl];omega));done));(conv=>whnf))))
    refine EvBi.append (R := rC) tyok29 rfl tyok62 rfl (by decide) rfl rfl hll.symm (by rw [hll]; exact q2) [wildC d zs (4 * (p.1 : Int))] (fun ρ W hp => hp.lit (R := rC) (ys := [wildC d zs (4 * (p.1 : Int))]) rfl (by decide) (by simp) (by omega) rfl) (by rw [hll]; show (_ + 1) * 32 ≤ _; omega) (by rw [hll]; show _ + 1 ≤ _; omega) (fun cap' hq1 hq2 => ?_)
    rw [← wildL_succ, hll] at *
    ((conv=>whnf);(repeat(refine And.intro ?_ ?_;(focus((first|omega|exact⟨rfl,True.intro⟩|exact⟨rfl,rfl,True.intro⟩|rfl|(simp only[List.length_set];first|omega|(refine⟨?_,?_⟩<;>omega)|(refine⟨?_,?_,?_⟩<;>omega))|(intro hg;(try simp only[bB]at hg);first|omega|(refine⟨?_,?_⟩<;>omega)|(refine⟨?_,?_,?_⟩<;>first|omega|(show _<_;(try simp only[List.length_set]);omega)|exact leT rfl))|(refine⟨?_,?_⟩<;>omega)|(refine⟨?_,?_,?_⟩<;>first|omega|(show _<_;(try simp only[List.length_set]);omega)|exact leT rfl)|(simp only[show rI.d=(0:Int)from rfl];omega));done));(conv=>whnf))))
    refine LoopI.back (p.1 + 1, cap') ⟨by show p.1 + 1 ≤ wildN zs m; omega, hq1, hq2⟩ (by show wildN zs m - (p.1 + 1) < wildN zs m - p.1; omega) (Sub.of [(2, 4)] [] rfl ?_)
    (repeat' (refine And.intro ?_ ?_)) <;> first | rfl | trivial | omega
  · simp only [Bool.and_eq_false_iff, decide_eq_false_iff_not] at g1
    have hsp : wildN zs m = p.1 := by omega
    rw [hsp]
    ((conv=>whnf);(repeat(refine And.intro ?_ ?_;(focus((first|omega|exact⟨rfl,True.intro⟩|exact⟨rfl,rfl,True.intro⟩|rfl|(simp only[List.length_set];first|omega|(refine⟨?_,?_⟩<;>omega)|(refine⟨?_,?_,?_⟩<;>omega))|(intro hg;(try simp only[bB]at hg);first|omega|(refine⟨?_,?_⟩<;>omega)|(refine⟨?_,?_,?_⟩<;>first|omega|(show _<_;(try simp only[List.length_set]);omega)|exact leT rfl))|(refine⟨?_,?_⟩<;>omega)|(refine⟨?_,?_,?_⟩<;>first|omega|(show _<_;(try simp only[List.length_set]);omega)|exact leT rfl)|(simp only[show rI.d=(0:Int)from rfl];omega));done));(conv=>whnf))))
    exact EvRet.rows (R := rC) hll.symm (by rw [hll]; exact q2) rfl rfl

/-- The least and the greatest of k values from f on. -/
def lowW (vs : List Int) (f : Nat) : Nat → Int
  | 0 => vs.getD f 0
  | k + 1 => min (lowW vs f k) (vs.getD (f + k) 0)
def highW (vs : List Int) (f : Nat) : Nat → Int
  | 0 => vs.getD f 0
  | k + 1 => max (highW vs f k) (vs.getD (f + k) 0)
def Small (vs : List Int) : Prop := ∀ i, -100000 ≤ vs.getD i 0 ∧ vs.getD i 0 ≤ 100000
theorem lowW_bd {vs : List Int} (h : Small vs) (f : Nat) : ∀ k, -100000 ≤ lowW vs f k ∧ lowW vs f k ≤ 100000
  | 0 => h f
  | k + 1 => by have := lowW_bd h f k; have := h (f + k); simp only [lowW]; omega
theorem highW_bd {vs : List Int} (h : Small vs) (f : Nat) : ∀ k, -100000 ≤ highW vs f k ∧ highW vs f k ≤ 100000
  | 0 => h f
  | k + 1 => by have := highW_bd h f k; have := h (f + k); simp only [highW]; omega
def arF (vs zs : List Int) (i : Int) : Int := arnd (zs.getD i.toNat 0) (vs.length : Int)
def arG (vs zs : List Int) (i : Int) : Int := min ((vs.length : Int) - 1) (arF vs zs i + arnd (zs.getD (i + 1).toNat 0) 3)
def arC (d : Dc) (vs zs : List Int) (i : Int) : Cl :=
  ⟨d.first + arF vs zs i, d.first + arG vs zs i, lowW vs (arF vs zs i).toNat (arG vs zs i - arF vs zs i + 1).toNat - (arnd (zs.getD (i + 2).toNat 0) 16).tdiv 4,
    highW vs (arF vs zs i).toNat (arG vs zs i - arF vs zs i + 1).toNat + (arnd (zs.getD (i + 2).toNat 0) 16).tmod 4⟩
def arL (d : Dc) (vs zs : List Int) (k : Nat) : List Cl := (List.range k).map fun j : Nat => arC d vs zs (3 * (j : Int))
def arN (zs : List Int) (m : Nat) : Nat := min (zs.length / 3) m
theorem arL_len (d : Dc) (vs zs : List Int) (k : Nat) : (arL d vs zs k).length = k := by simp [arL]
theorem arL_succ (d : Dc) (vs zs : List Int) (k : Nat) : arL d vs zs (k + 1) = arL d vs zs k ++ [arC d vs zs (3 * (k : Int))] := by simp [arL, List.range_succ]
set_option maxRecDepth 10000 in
theorem ref_around_s (nm : ByteArray) (A : Option Addr) (ln c : Nat) (d : Dc) (v1 v2 : Value) (vs zs : List Int) (m : Nat) (w : World) (h : DcT d) (hvs : Ints w v1 vs) (hv : Ints w v2 zs) (hm : m ≤ 100) (hne : 0 < vs.length) (hln : vs.length ≤ 100000) (hsm : Small vs) :
    Con Try.prog 12 #[.agg (dcCells nm (.slice A ln c) d), v1, v2, .int .i64 (m : Int)] w (RetRows rC 62 w (arL d vs zs (arN zs m))) := by
  obtain ⟨A1, c1, rfl, e1, e2⟩ := hv.form
  obtain ⟨A2, c2, rfl, e3, e4⟩ := hvs.form
  obtain ⟨h1, h2, h3⟩ := h
  refine enter tabOk mixed Try.func12 rfl Try.ntmps12 Try.results12 [.a (dcS nm (.v (.slice A ln c)) d), .s 1 1 vs.length c2, .s 0 1 zs.length c1, .v (.int .i64 (m : Int))] (fun n => if n = 0 then A1 else A2) [⟨1, false, 3, 1, c2, .rows Int rI (vs)⟩, ⟨0, false, 3, 1, c1, .rows Int rI (zs)⟩] 2 rfl rfl (.ro (.ro (hp0 _ _ _) _ rfl rfl rfl (ro_ints hv rfl _)) _ rfl rfl rfl (ro_ints hvs rfl _)) ?_
  ((conv=>whnf);(repeat(refine And.intro ?_ ?_;(focus((first|omega|exact⟨rfl,True.intro⟩|exact⟨rfl,rfl,True.intro⟩|rfl|(simp only[List.length_set];first|omega|(refine⟨?_,?_⟩<;>omega)|(refine⟨?_,?_,?_⟩<;>omega))|(intro hg;(try simp only[bB]at hg);first|omega|(refine⟨?_,?_⟩<;>omega)|(refine⟨?_,?_,?_⟩<;>first|omega|(show _<_;(try simp only[List.length_set]);omega)|exact leT rfl))|(refine⟨?_,?_⟩<;>omega)|(refine⟨?_,?_,?_⟩<;>first|omega|(show _<_;(try simp only[List.length_set]);omega)|exact leT rfl)|(simp only[show rI.d=(0:Int)from rfl];omega));done));(conv=>whnf))))
  refine EvLoop.inv (α := Nat × Nat) (fun p => p.1 ≤ arN zs m ∧ p.1 ≤ p.2 ∧ p.2 ≤ 9223372036854775807) (fun p => arN zs m - p.1)
    (fun p => [(11, [], .v (.int .i64 (3 * (p.1 : Int)))), (9, [], .s 3 4 p.1 p.2), (10, [], .v (.int .i64 ((vs.length : Int)))), (4, [], .p 2 0), (1, [], .s 1 1 vs.length c2), (2, [], .s 0 1 zs.length c1), (3, [], .v (.int .i64 ((m : Int))))])
    (fun p => [⟨3, true, 62, 4, p.2, .rows Cl rC (arL d vs zs p.1)⟩, ⟨2, true, 27, 12, 1, .cs (dcS nm (.v (.slice A ln c)) d)⟩, ⟨1, false, 3, 1, c2, .rows Int rI (vs)⟩, ⟨0, false, 3, 1, c1, .rows Int rI (zs)⟩]) 4 (0, 0) ⟨by simp, by simp, by decide⟩ (Sub.of [] [3] rfl ?_) ?_
  · (repeat' (refine And.intro ?_ ?_)) <;> first | rfl | trivial | omega | (show _ = _ ; simp)
  intro p ⟨q1, q2, q3⟩
  have hll := arL_len d vs zs p.1
  have hwn : arN zs m ≤ m ∧ 3 * arN zs m ≤ zs.length ∧ (p.1 < arN zs m ∨ m ≤ p.1 ∨ zs.length < 3 * (p.1 + 1)) := by unfold arN; omega
  ((conv=>whnf);(repeat(refine And.intro ?_ ?_;(focus((first|omega|exact⟨rfl,True.intro⟩|exact⟨rfl,rfl,True.intro⟩|rfl|(simp only[List.length_set];first|omega|(refine⟨?_,?_⟩<;>omega)|(refine⟨?_,?_,?_⟩<;>omega))|(intro hg;(try simp only[bB]at hg);first|omega|(refine⟨?_,?_⟩<;>omega)|(refine⟨?_,?_,?_⟩<;>first|omega|(show _<_;(try simp only[List.length_set]);omega)|exact leT rfl))|(refine⟨?_,?_⟩<;>omega)|(refine⟨?_,?_,?_⟩<;>first|omega|(show _<_;(try simp only[List.length_set]);omega)|exact leT rfl)|(simp only[show rI.d=(0:Int)from rfl];omega));done));(conv=>whnf))))
  refine EvIf.split (fun g1 => ?_) (fun g1 => ?_)
  · simp only [Bool.and_eq_true, decide_eq_true_eq] at g1
    have i0 := hv.i64 (k := Int.toNat (3 * (p.1 : Int))) (by omega)
    have i1 := hv.i64 (k := Int.toNat (3 * (p.1 : Int) + 1)) (by omega)
    have i2 := hv.i64 (k := Int.toNat (3 * (p.1 : Int) + 2)) (by omega)
    have a0 := arnd_nn (zs.getD (Int.toNat (3 * (p.1 : Int))) 0) (vs.length : Int) (by omega)
    have b0 := arnd_lt (zs.getD (Int.toNat (3 * (p.1 : Int))) 0) (vs.length : Int) (by omega)
    have a1 := arnd_nn (zs.getD (Int.toNat (3 * (p.1 : Int) + 1)) 0) 3 (by omega)
    have b1 := arnd_lt (zs.getD (Int.toNat (3 * (p.1 : Int) + 1)) 0) 3 (by omega)
    have a2 := arnd_nn (zs.getD (Int.toNat (3 * (p.1 : Int) + 2)) 0) 16 (by omega)
    have b2 := arnd_lt (zs.getD (Int.toNat (3 * (p.1 : Int) + 2)) 0) 16 (by omega)
    obtain ⟨F, hF⟩ : ∃ F : Nat, arnd (zs.getD (Int.toNat (3 * (p.1 : Int))) 0) (vs.length : Int) = (F : Int) := ⟨(arnd (zs.getD (Int.toNat (3 * (p.1 : Int))) 0) (vs.length : Int)).toNat, by omega⟩
    rw [hF] at a0 b0
    obtain ⟨x1, hx1⟩ : ∃ x, arnd (zs.getD (Int.toNat (3 * (p.1 : Int) + 1)) 0) 3 = x := ⟨_, rfl⟩
    rw [hx1] at a1 b1
    obtain ⟨x2, hx2⟩ : ∃ x, arnd (zs.getD (Int.toNat (3 * (p.1 : Int) + 2)) 0) 16 = x := ⟨_, rfl⟩
    rw [hx2] at a2 b2
    obtain ⟨G, hG⟩ : ∃ G : Nat, min ((vs.length : Int) - 1) ((F : Int) + x1) = (G : Int) := ⟨(min ((vs.length : Int) - 1) ((F : Int) + x1)).toNat, by omega⟩
    have hFG : F ≤ G ∧ G < vs.length := by omega
    have t1 : x2.tdiv 4 = x2 / 4 := Int.tdiv_eq_ediv_of_nonneg a2
    have t2 : x2.tmod 4 = x2 % 4 := Int.tmod_eq_emod_of_nonneg a2
    ((conv=>whnf);(repeat(refine And.intro ?_ ?_;(focus((first|omega|exact⟨rfl,True.intro⟩|exact⟨rfl,rfl,True.intro⟩|rfl|(simp only[List.length_set];first|omega|(refine⟨?_,?_⟩<;>omega)|(refine⟨?_,?_,?_⟩<;>omega))|(intro hg;(try simp only[bB]at hg);first|omega|(refine⟨?_,?_⟩<;>omega)|(refine⟨?_,?_,?_⟩<;>first|omega|(show _<_;(try simp only[List.length_set]);omega)|exact leT rfl))|(refine⟨?_,?_⟩<;>omega)|(refine⟨?_,?_,?_⟩<;>first|omega|(show _<_;(try simp only[List.length_set]);omega)|exact leT rfl)|(simp only[show rI.d=(0:Int)from rfl];omega));done));(conv=>whnf))))
    refine EvCall.plain Try.call17 (.v (.int .i64 (F : Int))) rfl (fun ρ W hp => hF ▸ around_s _ _ _ i0 (by omega) (by omega)) ?_
    ((conv=>whnf);(repeat(refine And.intro ?_ ?_;(focus((first|omega|exact⟨rfl,True.intro⟩|exact⟨rfl,rfl,True.intro⟩|rfl|(simp only[List.length_set];first|omega|(refine⟨?_,?_⟩<;>omega)|(refine⟨?_,?_,?_⟩<;>omega))|(intro hg;(try simp only[bB]at hg);first|omega|(refine⟨?_,?_⟩<;>omega)|(refine⟨?_,?_,?_⟩<;>first|omega|(show _<_;(try simp only[List.length_set]);omega)|exact leT rfl))|(refine⟨?_,?_⟩<;>omega)|(refine⟨?_,?_,?_⟩<;>first|omega|(show _<_;(try simp only[List.length_set]);omega)|exact leT rfl)|(simp only[show rI.d=(0:Int)from rfl];omega));done));(conv=>whnf))))
    refine EvCall.plain Try.call17 (.v (.int .i64 x1)) rfl (fun ρ W hp => hx1 ▸ around_s _ _ _ i1 (by omega) (by omega)) ?_
    ((conv=>whnf);(repeat(refine And.intro ?_ ?_;(focus((first|omega|exact⟨rfl,True.intro⟩|exact⟨rfl,rfl,True.intro⟩|rfl|(simp only[List.length_set];first|omega|(refine⟨?_,?_⟩<;>omega)|(refine⟨?_,?_,?_⟩<;>omega))|(intro hg;(try simp only[bB]at hg);first|omega|(refine⟨?_,?_⟩<;>omega)|(refine⟨?_,?_,?_⟩<;>first|omega|(show _<_;(try simp only[List.length_set]);omega)|exact leT rfl))|(refine⟨?_,?_⟩<;>omega)|(refine⟨?_,?_,?_⟩<;>first|omega|(show _<_;(try simp only[List.length_set]);omega)|exact leT rfl)|(simp only[show rI.d=(0:Int)from rfl];omega));done));(conv=>whnf))))
    rw [hG]
    refine EvLoop.inv (α := Nat) (fun k => F + k ≤ G + 1) (fun k => G + 1 - k)
      (fun k => [(16, [], .v (.int .i64 ((F : Int) + (k : Int)))), (13, [], .v (.int .i64 ((G : Int)))), (14, [], .v (.int .i64 (lowW vs F k))), (15, [], .v (.int .i64 (highW vs F k))), (12, [], .v (.int .i64 ((F : Int)))), (11, [], .v (.int .i64 (3 * (p.1 : Int)))), (9, [], .s 3 4 p.1 p.2), (10, [], .v (.int .i64 ((vs.length : Int)))), (4, [], .p 2 0), (1, [], .s 1 1 vs.length c2), (2, [], .s 0 1 zs.length c1), (3, [], .v (.int .i64 ((m : Int))))])
      (fun k => [⟨3, true, 62, 4, p.2, .rows Cl rC (arL d vs zs p.1)⟩, ⟨2, true, 27, 12, 1, .cs (dcS nm (.v (.slice A ln c)) d)⟩, ⟨1, false, 3, 1, c2, .rows Int rI (vs)⟩, ⟨0, false, 3, 1, c1, .rows Int rI (zs)⟩]) 4 0 (by omega) (Sub.of [] [] rfl ?_) ?_
    · (repeat' (refine And.intro ?_ ?_)) <;> first | rfl | trivial | omega
    intro k hk
    ((conv=>whnf);(repeat(refine And.intro ?_ ?_;(focus((first|omega|exact⟨rfl,True.intro⟩|exact⟨rfl,rfl,True.intro⟩|rfl|(simp only[List.length_set];first|omega|(refine⟨?_,?_⟩<;>omega)|(refine⟨?_,?_,?_⟩<;>omega))|(intro hg;(try simp only[bB]at hg);first|omega|(refine⟨?_,?_⟩<;>omega)|(refine⟨?_,?_,?_⟩<;>first|omega|(show _<_;(try simp only[List.length_set]);omega)|exact leT rfl))|(refine⟨?_,?_⟩<;>omega)|(refine⟨?_,?_,?_⟩<;>first|omega|(show _<_;(try simp only[List.length_set]);omega)|exact leT rfl)|(simp only[show rI.d=(0:Int)from rfl];omega));done));(conv=>whnf))))
    refine EvIf.split (fun g2 => ?_) (fun g2 => ?_)
    · simp only [decide_eq_true_eq] at g2
      have s1 : lowW vs F (k + 1) = min (lowW vs F k) (vs.getD (Int.toNat ((F : Int) + k)) rI.d) := by rw [show Int.toNat ((F : Int) + k) = F + k by omega]; rfl
      have s2 : highW vs F (k + 1) = max (highW vs F k) (vs.getD (Int.toNat ((F : Int) + k)) rI.d) := by rw [show Int.toNat ((F : Int) + k) = F + k by omega]; rfl
      ((conv=>whnf);(repeat(refine And.intro ?_ ?_;(focus((first|omega|exact⟨rfl,True.intro⟩|exact⟨rfl,rfl,True.intro⟩|rfl|(simp only[List.length_set];first|omega|(refine⟨?_,?_⟩<;>omega)|(refine⟨?_,?_,?_⟩<;>omega))|(intro hg;(try simp only[bB]at hg);first|omega|(refine⟨?_,?_⟩<;>omega)|(refine⟨?_,?_,?_⟩<;>first|omega|(show _<_;(try simp only[List.length_set]);omega)|exact leT rfl))|(refine⟨?_,?_⟩<;>omega)|(refine⟨?_,?_,?_⟩<;>first|omega|(show _<_;(try simp only[List.length_set]);omega)|exact leT rfl)|(simp only[show rI.d=(0:Int)from rfl];omega));done));(conv=>whnf))))
      refine LoopI.back (k + 1) (by omega) (by omega) (Sub.of [] [] rfl ?_)
      (repeat' (refine And.intro ?_ ?_)) <;> first | rfl | trivial | exact s1.symm | exact s2.symm | omega
    · simp only [decide_eq_false_iff_not] at g2
      have hlw := lowW_bd hsm F k
      have hhw := highW_bd hsm F k
      have hkk : ((G : Int) - (F : Int) + 1).toNat = k := by omega
      have hc : arC d vs zs (3 * (p.1 : Int)) = ⟨d.first + F, d.first + G, lowW vs F k - x2.tdiv 4, highW vs F k + x2.tmod 4⟩ := by
        have f1 : arF vs zs (3 * (p.1 : Int)) = (F : Int) := hF
        have f2 : arG vs zs (3 * (p.1 : Int)) = (G : Int) := by unfold arG; rw [f1, hx1]; exact hG
        unfold arC
        rw [f1, f2, hx2, hkk, Int.toNat_natCast]
      ((conv=>whnf);(repeat(refine And.intro ?_ ?_;(focus((first|omega|exact⟨rfl,True.intro⟩|exact⟨rfl,rfl,True.intro⟩|rfl|(simp only[List.length_set];first|omega|(refine⟨?_,?_⟩<;>omega)|(refine⟨?_,?_,?_⟩<;>omega))|(intro hg;(try simp only[bB]at hg);first|omega|(refine⟨?_,?_⟩<;>omega)|(refine⟨?_,?_,?_⟩<;>first|omega|(show _<_;(try simp only[List.length_set]);omega)|exact leT rfl))|(refine⟨?_,?_⟩<;>omega)|(refine⟨?_,?_,?_⟩<;>first|omega|(show _<_;(try simp only[List.length_set]);omega)|exact leT rfl)|(simp only[show rI.d=(0:Int)from rfl];omega));done));(conv=>whnf))))
      refine EvCall.plain Try.call17 (.v (.int .i64 x2)) rfl (fun ρ W hp => hx2 ▸ around_s _ _ _ i2 (by omega) (by omega)) ?_
      ((conv=>whnf);(repeat(refine And.intro ?_ ?_;(focus((first|omega|exact⟨rfl,True.intro⟩|exact⟨rfl,rfl,True.intro⟩|rfl|(simp only[List.length_set];first|omega|(refine⟨?_,?_⟩<;>omega)|(refine⟨?_,?_,?_⟩<;>omega))|(intro hg;(try simp only[bB]at hg);first|omega|(refine⟨?_,?_⟩<;>omega)|(refine⟨?_,?_,?_⟩<;>first|omega|(show _<_;(try simp only[List.length_set]);omega)|exact leT rfl))|(refine⟨?_,?_⟩<;>omega)|(refine⟨?_,?_,?_⟩<;>first|omega|(show _<_;(try simp only[List.length_set]);omega)|exact leT rfl)|(simp only[show rI.d=(0:Int)from rfl];omega));done));(conv=>whnf))))
      refine EvBi.append (R := rC) tyok29 rfl tyok62 rfl (by decide) rfl rfl hll.symm (by rw [hll]; exact q2) [arC d vs zs (3 * (p.1 : Int))] (fun ρ W hp => hp.lit (R := rC) (ys := [arC d vs zs (3 * (p.1 : Int))]) rfl (by decide) (by simp) (by omega) (by rw [hc]; rfl)) (by rw [hll]; show (_ + 1) * 32 ≤ _; omega) (by rw [hll]; show _ + 1 ≤ _; omega) (fun cap' hq1 hq2 => ?_)
      rw [← arL_succ, hll] at *
      ((conv=>whnf);(repeat(refine And.intro ?_ ?_;(focus((first|omega|exact⟨rfl,True.intro⟩|exact⟨rfl,rfl,True.intro⟩|rfl|(simp only[List.length_set];first|omega|(refine⟨?_,?_⟩<;>omega)|(refine⟨?_,?_,?_⟩<;>omega))|(intro hg;(try simp only[bB]at hg);first|omega|(refine⟨?_,?_⟩<;>omega)|(refine⟨?_,?_,?_⟩<;>first|omega|(show _<_;(try simp only[List.length_set]);omega)|exact leT rfl))|(refine⟨?_,?_⟩<;>omega)|(refine⟨?_,?_,?_⟩<;>first|omega|(show _<_;(try simp only[List.length_set]);omega)|exact leT rfl)|(simp only[show rI.d=(0:Int)from rfl];omega));done));(conv=>whnf))))
      refine LoopI.back (p.1 + 1, cap') ⟨by show p.1 + 1 ≤ arN zs m; omega, hq1, hq2⟩ (by show arN zs m - (p.1 + 1) < arN zs m - p.1; omega) (Sub.of [(3, 5)] [] rfl ?_)
      (repeat' (refine And.intro ?_ ?_)) <;> first | rfl | trivial | omega
  · simp only [Bool.and_eq_false_iff, decide_eq_false_iff_not] at g1
    have hsp : arN zs m = p.1 := by omega
    rw [hsp]
    ((conv=>whnf);(repeat(refine And.intro ?_ ?_;(focus((first|omega|exact⟨rfl,True.intro⟩|exact⟨rfl,rfl,True.intro⟩|rfl|(simp only[List.length_set];first|omega|(refine⟨?_,?_⟩<;>omega)|(refine⟨?_,?_,?_⟩<;>omega))|(intro hg;(try simp only[bB]at hg);first|omega|(refine⟨?_,?_⟩<;>omega)|(refine⟨?_,?_,?_⟩<;>first|omega|(show _<_;(try simp only[List.length_set]);omega)|exact leT rfl))|(refine⟨?_,?_⟩<;>omega)|(refine⟨?_,?_,?_⟩<;>first|omega|(show _<_;(try simp only[List.length_set]);omega)|exact leT rfl)|(simp only[show rI.d=(0:Int)from rfl];omega));done));(conv=>whnf))))
    exact EvRet.rows (R := rC) hll.symm (by rw [hll]; exact q2) rfl rfl
end Go.Proofs.Ytpnngbfmmjjnaaa
