
/- Histories: Agrees of both, walked, for every declaration. -/
import Derived.Test.YtnoenmacakbhdaaHa
namespace Go.Proofs.Ytnoenmacakbhdaa
open Go.RowKit
set_option linter.unusedVariables false
set_option linter.unusedSimpArgs false

def DcL (d : Dc) : Prop := 0 ≤ d.first ∧ d.first ≤ d.last ∧ d.last ≤ 1048576
set_option maxRecDepth 10000 in
theorem ref_holdsG_s (nm : ByteArray) (A : Option Addr) (ln c : Nat) (d : Dc) (x : Cl) (v : Value) (vs : List Int) (w : World) (h : DcL d) (hv : RowsIn rI w v vs) :
    Con Try.prog 70 #[.agg (dcCells nm (.slice A ln c) d), .agg (clA x), v] w (Ret w (.bool (holdsB' d x vs))) := by
  obtain ⟨A1, c1, rfl, e1, e2⟩ := hv.form
  obtain ⟨h1, h2, h3⟩ := h
  refine enter tabOk mixed Try.func70 rfl Try.ntmps70 Try.results70 [.a (dcS nm (.v (.slice A ln c)) d), .a (clS x), .s 0 1 vs.length c1] (fun _ => A1) [⟨0, false, 3, 1, c1, .rows Int rI (vs)⟩] 1 rfl rfl (.ro (hp0 _ _ _) _ rfl rfl rfl (ro_rows hv rfl _)) ?_
  ((conv=>whnf);repeat(refine And.intro (by omega) ?_;(conv=>whnf)))
  refine EvCall.plain Try.call102 (.v (.bool (validB d x))) rfl (fun ρ W hp => ref_valid_s _ _ _ _ d x W) ?_
  ((conv=>whnf);repeat(refine And.intro (by omega) ?_;(conv=>whnf)))
  refine EvIf.split (fun g1 => ?_) (fun g1 => ?_)
  · simp only [Bool.or_eq_true, Bool.not_eq_true', decide_eq_false_iff_not] at g1
    ((conv=>whnf);repeat(refine And.intro (by omega) ?_;(conv=>whnf)))
    refine EvRet.ret (fun _ => ?_)
    rw [holdsB'_f.2 (fun hh => by rcases g1 with g1 | g1; rw [hh.1] at g1; cases g1; exact g1 hh.2.1)]
    rfl
  simp only [Bool.or_eq_false_iff, Bool.not_eq_false', decide_eq_true_eq] at g1
  have hvb := (valid_iff d x).1 g1.1
  ((conv=>whnf);repeat(refine And.intro (by omega) ?_;(conv=>whnf)))
  refine EvLoop.inv (α := Nat) (fun k => x.f + k ≤ x.t + 1 ∧ ∀ j, j < k → x.lo ≤ vs.getD (x.f + j - d.first).toNat 0 ∧ vs.getD (x.f + j - d.first).toNat 0 ≤ x.hi) (fun k => (x.t + 1 - x.f - k).toNat)
    (fun k => [(8, [], .v (.int .i64 (x.f + (k : Int)))), (2, [], .s 0 1 vs.length c1), (3, [], .p 1 0), (4, [], .p 2 0)])
    (fun k => [⟨2, true, 52, 4, 1, .cs (clS x)⟩, ⟨1, true, 27, 12, 1, .cs (dcS nm (.v (.slice A ln c)) d)⟩, ⟨0, false, 3, 1, c1, .rows Int rI (vs)⟩]) 3 0 ⟨by omega, fun j hj => by omega⟩ (Sub.of [] [] rfl ?_) ?_
  · ((repeat' (refine And.intro ?_ ?_)) <;> first | rfl | exact True.intro | omega)
  intro k ⟨hk, hk2⟩
  ((conv=>whnf);repeat(refine And.intro (by omega) ?_;(conv=>whnf)))
  refine EvIf.split (fun g2 => ?_) (fun g2 => ?_)
  · simp only [decide_eq_true_eq] at g2
    ((conv=>whnf);repeat(refine And.intro (by omega) ?_;(conv=>whnf)))
    (refine EvDraw.one (.q 0 (.q 1 (.q 2 (.q 3 (.q 4 (.q 5 (.q 6 (.q 7 (.q 8 (.q 9 (.q 10 (.q 11 (.q 12 (.q 13 (.q 14 (.q 15 (.q 16 (.q 17 (.q 18 (.q 19 (.q 20 (.q 21 (.z))))))))))))))))))))))) (by kernel_rfl) ?_)
    ((conv=>whnf);(repeat(refine And.intro ?_ ?_;(focus((first|omega|exact⟨rfl,True.intro⟩|exact⟨rfl,rfl,True.intro⟩|rfl|(simp only[List.length_set];first|omega|(refine⟨?_,?_⟩<;>omega)|(refine⟨?_,?_,?_⟩<;>omega))|(intro hg;(try simp only[bB]at hg);first|omega|(refine⟨?_,?_⟩<;>omega)|(refine⟨?_,?_,?_⟩<;>first|omega|(show _<_;(try simp only[List.length_set]);omega)|exact leT rfl))|(refine⟨?_,?_⟩<;>omega)|(refine⟨?_,?_,?_⟩<;>first|omega|(show _<_;(try simp only[List.length_set]);omega)|exact leT rfl)|(simp only[show rI.d=(0:Int)from rfl];omega));done));(conv=>whnf))))
    refine EvIf.split (fun g3 => ?_) (fun g3 => ?_)
    · simp only [Bool.or_eq_true, decide_eq_true_eq] at g3
      ((conv=>whnf);repeat(refine And.intro (by omega) ?_;(conv=>whnf)))
      refine EvRet.ret (fun _ => ?_)
      rw [holdsB'_f.2 (fun hh => by
        have := hh.2.2 (x.f + k - d.first).toNat (by omega) (by omega)
        have g4 : vs.getD (x.f + k - d.first).toNat 0 < x.lo ∨ x.hi < vs.getD (x.f + k - d.first).toNat 0 := g3
        omega)]
      rfl
    · simp only [Bool.or_eq_false_iff, decide_eq_false_iff_not] at g3
      have g4 : ¬ vs.getD (x.f + k - d.first).toNat 0 < x.lo ∧ ¬ x.hi < vs.getD (x.f + k - d.first).toNat 0 := g3
      ((conv=>whnf);repeat(refine And.intro (by omega) ?_;(conv=>whnf)))
      refine LoopI.back (k + 1) ⟨by omega, fun j hj => ?_⟩ (by omega) (Sub.of [] [] rfl ?_)
      · by_cases hjk : j = k
        · subst hjk; omega
        · exact hk2 j (by omega)
      · ((repeat' (refine And.intro ?_ ?_)) <;> first | rfl | exact True.intro | omega)
  · simp only [decide_eq_false_iff_not] at g2
    ((conv=>whnf);repeat(refine And.intro (by omega) ?_;(conv=>whnf)))
    refine EvRet.ret (fun _ => ?_)
    rw [holdsB'_t.2 ⟨g1.1, g1.2, fun i hi1 hi2 => by
      have := hk2 (i - (x.f - d.first)).toNat (by omega)
      rw [show (x.f + ((i - (x.f - d.first)).toNat : Int) - d.first).toNat = i by omega] at this
      exact this⟩]
    rfl
set_option maxRecDepth 10000 in
theorem holdsG_s (nm : ByteArray) (A : Option Addr) (ln c : Nat) (d : Dc) (x : Cl) (v : Value) (vs : List Int) (w : World) (h : DcL d) (hv : RowsIn rI w v vs) :
    Con Try.prog 84 #[.agg (dcCells nm (.slice A ln c) d), .agg (clA x), v] w (Ret w (.bool (holdsB' d x vs))) := by
  obtain ⟨A1, c1, rfl, e1, e2⟩ := hv.form
  obtain ⟨h1, h2, h3⟩ := h
  refine enter tabOk mixed Try.func84 rfl Try.ntmps84 Try.results84 [.a (dcS nm (.v (.slice A ln c)) d), .a (clS x), .s 0 1 vs.length c1] (fun _ => A1) [⟨0, false, 3, 1, c1, .rows Int rI (vs)⟩] 1 rfl rfl (.ro (hp0 _ _ _) _ rfl rfl rfl (ro_rows hv rfl _)) ?_
  ((conv=>whnf);repeat(refine And.intro (by omega) ?_;(conv=>whnf)))
  refine EvCall.plain Try.call48 (.v (.bool (validB d x))) rfl (fun ρ W hp => valid_s _ _ _ _ d x W) ?_
  ((conv=>whnf);repeat(refine And.intro (by omega) ?_;(conv=>whnf)))
  refine EvCallC.plain Try.call83 (.v (.int .i64 (d.last - d.first + 1))) rfl (fun _ ρ W hp => span_s _ _ _ _ d W (by omega) (by omega)) ?_
  ((conv=>whnf);repeat(refine And.intro (by omega) ?_;(conv=>whnf)))
  refine EvIf.split (fun g1 => ?_) (fun g1 => ?_)
  · simp only [Bool.or_eq_true, Bool.not_eq_true', decide_eq_false_iff_not, decide_eq_true_eq] at g1
    ((conv=>whnf);repeat(refine And.intro (by omega) ?_;(conv=>whnf)))
    refine EvRet.ret (fun _ => ?_)
    rw [holdsB'_f.2 (fun hh => by
      rcases g1 with (g1 | g1) | g1
      · rw [hh.1] at g1; cases g1
      · exact g1 hh.2.1
      · have := hh.2.1; omega)]
    rfl
  simp only [Bool.or_eq_false_iff, Bool.not_eq_false', decide_eq_true_eq, decide_eq_false_iff_not] at g1
  have hvb := (valid_iff d x).1 g1.1.1
  ((conv=>whnf);repeat(refine And.intro (by omega) ?_;(conv=>whnf)))
  obtain ⟨F, hF⟩ : ∃ F : Nat, x.f - d.first = (F : Int) := ⟨(x.f - d.first).toNat, by omega⟩
  obtain ⟨G, hG⟩ : ∃ G : Nat, x.t - d.first = (G : Int) := ⟨(x.t - d.first).toNat, by omega⟩
  have hso : sOff (Option.getD none 0) c1 (x.f - d.first).toNat = F := by
    have : (x.f - d.first).toNat = F := by omega
    rw [this]
    unfold sOff
    rw [if_neg (by omega)]
    simp
  refine EvLoop.inv (α := Nat) (fun k => F + k ≤ G + 1 ∧ ∀ j, j < k → x.lo ≤ vs.getD (F + j) 0 ∧ vs.getD (F + j) 0 ≤ x.hi) (fun k => G + 1 - F - k)
    (fun k => [(39, [], .v (.int .i64 ((k : Int)))), (38, [], .v (.int .i64 (((G + 1 - F : Nat) : Int)))), (37, [], .so 0 1 F (G + 1 - F) (c1 - F)), (3, [], .p 1 0), (4, [], .p 2 0)])
    (fun k => [⟨2, true, 52, 4, 1, .cs (clS x)⟩, ⟨1, true, 27, 12, 1, .cs (dcS nm (.v (.slice A ln c)) d)⟩, ⟨0, false, 3, 1, c1, .rows Int rI (vs)⟩]) 3 0 ⟨by omega, fun j hj => by omega⟩ (Sub.of [] [] rfl ?_) ?_
  · (repeat' (refine And.intro ?_ ?_)) <;> first | rfl | trivial | exact hso | omega
  intro k ⟨hk, hk2⟩
  ((conv=>whnf);repeat(refine And.intro (by omega) ?_;(conv=>whnf)))
  refine EvIf.split (fun g2 => ?_) (fun g2 => ?_)
  · simp only [decide_eq_true_eq] at g2
    ((conv=>whnf);(repeat(refine And.intro ?_ ?_;(focus((first|omega|exact⟨rfl,True.intro⟩|exact⟨rfl,rfl,True.intro⟩|rfl|(simp only[List.length_set];first|omega|(refine⟨?_,?_⟩<;>omega)|(refine⟨?_,?_,?_⟩<;>omega))|(intro hg;(try simp only[bB]at hg);first|omega|(refine⟨?_,?_⟩<;>omega)|(refine⟨?_,?_,?_⟩<;>first|omega|(show _<_;(try simp only[List.length_set]);omega)|exact leT rfl))|(refine⟨?_,?_⟩<;>omega)|(refine⟨?_,?_,?_⟩<;>first|omega|(show _<_;(try simp only[List.length_set]);omega)|exact leT rfl)|(simp only[show rI.d=(0:Int)from rfl];omega));done));(conv=>whnf))))
    refine EvIf.split (fun g3 => ?_) (fun g3 => ?_)
    · simp only [Bool.or_eq_true, decide_eq_true_eq] at g3
      have g4 : vs.getD (F + k) 0 < x.lo ∨ x.hi < vs.getD (F + k) 0 := g3
      ((conv=>whnf);repeat(refine And.intro (by omega) ?_;(conv=>whnf)))
      refine EvRet.ret (fun _ => ?_)
      rw [holdsB'_f.2 (fun hh => by
        have := hh.2.2 (F + k) (by omega) (by omega)
        omega)]
      rfl
    · simp only [Bool.or_eq_false_iff, decide_eq_false_iff_not] at g3
      have g4 : ¬ vs.getD (F + k) 0 < x.lo ∧ ¬ x.hi < vs.getD (F + k) 0 := g3
      ((conv=>whnf);repeat(refine And.intro (by omega) ?_;(conv=>whnf)))
      refine LoopI.back (k + 1) ⟨by omega, fun j hj => ?_⟩ (by omega) (Sub.of [] [] rfl ?_)
      · by_cases hjk : j = k
        · subst hjk; omega
        · exact hk2 j (by omega)
      · ((repeat' (refine And.intro ?_ ?_)) <;> first | rfl | exact True.intro | omega)
  · simp only [decide_eq_false_iff_not] at g2
    ((conv=>whnf);repeat(refine And.intro (by omega) ?_;(conv=>whnf)))
    refine EvRet.ret (fun _ => ?_)
    rw [holdsB'_t.2 ⟨g1.1.1, g1.1.2, fun i hi1 hi2 => by
      have := hk2 (i - F) (by omega)
      rw [show F + (i - F) = i by omega] at this
      exact this⟩]
    rfl

noncomputable def agB (d : Dc) (l : List Cl) (vs : List Int) : Bool := @decide (validCode d = 0 ∧ l.length ≤ 4096 ∧ HistP d l vs) (Classical.propDecidable _)
theorem agB_t {d : Dc} {l : List Cl} {vs : List Int} : agB d l vs = true ↔ (validCode d = 0 ∧ l.length ≤ 4096 ∧ HistP d l vs) := by simp [agB]
theorem agB_f {d : Dc} {l : List Cl} {vs : List Int} : agB d l vs = false ↔ ¬ (validCode d = 0 ∧ l.length ≤ 4096 ∧ HistP d l vs) := by
  rw [← Bool.not_eq_true, agB_t]
theorem agB_ok {d : Dc} {l : List Cl} {vs : List Int} (h : validCode d = 0) (hl : l.length ≤ 4096) : agB d l vs = histB d l vs := by
  cases hh : histB d l vs with
  | true => exact agB_t.2 ⟨h, hl, histB_t.1 hh⟩
  | false => exact agB_f.2 (fun h' => histB_f.1 hh h'.2.2)
theorem agB_bad {d : Dc} {l : List Cl} {vs : List Int} (h : checkR d l ≠ 0) : agB d l vs = false := agB_f.2 (fun h' => h (check5 h'.1 h'.2.1 (fun c hc => (h'.2.2.2.2 c hc).1)))
theorem check_bd {d : Dc} (hI : DcI d) (l : List Cl) : 0 ≤ checkR d l ∧ checkR d l ≤ 10 := by
  unfold checkR validCode
  (repeat' split) <;> omega
set_option maxRecDepth 10000 in
theorem agreesG_s (nm : ByteArray) (A : Option Addr) (ln c : Nat) (v u : Value) (d : Dc) (l : List Cl) (vs : List Int) (w : World) (h : DeclIs w (.agg (dcCells nm (.slice A ln c) d)) d) (hI : DcI d) (hv : RowsIn rC w v l) (hu : RowsIn rI w u vs)
    (hvs : ∀ i, -1099511627776 ≤ vs.getD i 0 ∧ vs.getD i 0 ≤ 1099511627776) :
    Con Try.prog 24 #[.agg (dcCells nm (.slice A ln c) d), v, u] w (Ret w (.bool (agB d l vs))) := by
  have hD := h
  obtain ⟨A1, c1, rfl, e1, e2⟩ := hv.form
  obtain ⟨A2, c2, rfl, e3, e4⟩ := hu.form
  refine enter tabOk mixed Try.func24 rfl Try.ntmps24 Try.results24 [.a (dcS nm (.v (.slice A ln c)) d), .s 0 4 l.length c1, .s 1 1 vs.length c2] (fun n => if n = 0 then A1 else A2) [⟨1, false, 3, 1, c2, .rows Int rI (vs)⟩, ⟨0, false, 52, 4, c1, .rows Cl rC (l)⟩] 2 rfl rfl (.ro (.ro (hp0 _ _ _) _ rfl rfl rfl (ro_rows hv rfl _)) _ rfl rfl rfl (ro_rows hu rfl _)) ?_
  ((conv=>whnf);repeat(refine And.intro (by omega) ?_;(conv=>whnf)))
  by_cases hck : checkR d l = 0
  case neg =>
    refine EvCall.plain Try.call66 (.v (.int .i64 (checkR d l))) rfl (fun ρ W hp => ref_check_s _ _ d l W (hD.below hp.bel) hI (hp.rowsIn (R := rC) (n := 0) (c := c1) rfl (by decide) e1 e2 4)) ?_
    have hI' := check_bd hI l
    ((conv=>whnf);(repeat(refine And.intro ?_ ?_;(focus((first|omega|exact⟨rfl,True.intro⟩|exact⟨rfl,rfl,True.intro⟩|rfl|(simp only[List.length_set];first|omega|(refine⟨?_,?_⟩<;>omega)|(refine⟨?_,?_,?_⟩<;>omega))|(intro hg;(try simp only[bB]at hg);first|omega|(refine⟨?_,?_⟩<;>omega)|(refine⟨?_,?_,?_⟩<;>first|omega|(show _<_;(try simp only[List.length_set]);omega)|exact leT rfl))|(refine⟨?_,?_⟩<;>omega)|(refine⟨?_,?_,?_⟩<;>first|omega|(show _<_;(try simp only[List.length_set]);omega)|exact leT rfl)|(simp only[show rI.d=(0:Int)from rfl];omega));done));(conv=>whnf))))
    refine EvIf.pos (by simp [hck]) ?_
    ((conv=>whnf);repeat(refine And.intro (by omega) ?_;(conv=>whnf)))
    refine EvRet.ret (fun _ => ?_)
    rw [agB_bad hck]
    rfl
  refine EvCall.plain Try.call66 (.v (.int .i64 0)) rfl (fun ρ W hp => by
    have := ref_check_s _ _ d l W (hD.below hp.bel) hI (hp.rowsIn (R := rC) (n := 0) (c := c1) rfl (by decide) e1 e2 4)
    rw [hck] at this
    exact this) ?_
  obtain ⟨hvc, hll, hlv⟩ := check_ok hck
  have hbd := valid_bounds hvc
  rw [agB_ok hvc hll]
  have hT : DcL d := ⟨by omega, by omega, by omega⟩
  ((conv=>whnf);repeat(refine And.intro (by omega) ?_;(conv=>whnf)))
  refine EvIf.split (fun g1 => ?_) (fun g1 => ?_)
  · ((conv=>whnf);repeat(refine And.intro (by omega) ?_;(conv=>whnf)))
    refine EvRet.ret (fun _ => ?_)
    rw [histB_f.2 (fun hh => by have := hh.1; simp at g1; omega)]
    rfl
  have hlen : (vs.length : Int) = d.last - d.first + 1 := by simpa using g1
  ((conv=>whnf);repeat(refine And.intro (by omega) ?_;(conv=>whnf)))
  refine EvLoop.inv (α := Nat) (fun k => k ≤ vs.length ∧ ∀ i : Nat, i < k → (d.lo ≤ vs.getD i 0 ∧ vs.getD i 0 ≤ d.hi) ∧ (0 < i → d.down ≤ vs.getD i 0 - vs.getD (i - 1) 0 ∧ vs.getD i 0 - vs.getD (i - 1) 0 ≤ d.up)) (fun k => vs.length - k)
    (fun k => [(8, [], .v (.int .i64 ((k : Int)))), (1, [], .s 0 4 l.length c1), (2, [], .s 1 1 vs.length c2), (3, [], .p 2 0)])
    (fun k => [⟨2, true, 27, 12, 1, .cs (dcS nm (.v (.slice A ln c)) d)⟩, ⟨1, false, 3, 1, c2, .rows Int rI (vs)⟩, ⟨0, false, 52, 4, c1, .rows Cl rC (l)⟩]) 3 0 ⟨by omega, fun i hi => by omega⟩ (Sub.of [] [] rfl ?_) ?_
  · ((repeat' (refine And.intro ?_ ?_)) <;> first | rfl | exact True.intro | omega)
  intro k ⟨hk, hk2⟩
  have b1 : -1099511627776 ≤ vs.getD (k : Int).toNat rI.d ∧ vs.getD (k : Int).toNat rI.d ≤ 1099511627776 := hvs k
  have b2 : -1099511627776 ≤ vs.getD ((k : Int) - 1).toNat rI.d ∧ vs.getD ((k : Int) - 1).toNat rI.d ≤ 1099511627776 := hvs ((k : Int) - 1).toNat
  have b3 : ((k : Int) - 1).toNat = k - 1 := by omega
  ((conv=>whnf);repeat(refine And.intro (by omega) ?_;(conv=>whnf)))
  refine EvIf.split (fun g2 => ?_) (fun g2 => ?_)
  · simp only [decide_eq_true_eq] at g2
    ((conv=>whnf);repeat(refine And.intro (by omega) ?_;(conv=>whnf)))
    (refine EvDraw.one (.q 0 (.q 1 (.q 2 (.q 3 (.q 4 (.q 5 (.q 6 (.q 7 (.q 8 (.q 9 (.q 10 (.q 11 (.q 12 (.q 13 (.q 14 (.q 15 (.z))))))))))))))))) (by kernel_rfl) ?_)
    ((conv=>whnf);(repeat(refine And.intro ?_ ?_;(focus((first|omega|exact⟨rfl,True.intro⟩|exact⟨rfl,rfl,True.intro⟩|rfl|(simp only[List.length_set];first|omega|(refine⟨?_,?_⟩<;>omega)|(refine⟨?_,?_,?_⟩<;>omega))|(intro hg;(try simp only[bB]at hg);first|omega|(refine⟨?_,?_⟩<;>omega)|(refine⟨?_,?_,?_⟩<;>first|omega|(show _<_;(try simp only[List.length_set]);omega)|exact leT rfl))|(refine⟨?_,?_⟩<;>omega)|(refine⟨?_,?_,?_⟩<;>first|omega|(show _<_;(try simp only[List.length_set]);omega)|exact leT rfl)|(simp only[show rI.d=(0:Int)from rfl];omega));done));(conv=>whnf))))
    refine EvIf.split (fun g3 => ?_) (fun g3 => ?_)
    · simp only [Bool.or_eq_true, decide_eq_true_eq] at g3
      have g4 : vs.getD k 0 < d.lo ∨ d.hi < vs.getD k 0 := g3
      ((conv=>whnf);repeat(refine And.intro (by omega) ?_;(conv=>whnf)))
      refine EvRet.ret (fun _ => ?_)
      rw [histB_f.2 (fun hh => by have := hh.2.1 k (by omega); omega)]
      rfl
    simp only [Bool.or_eq_false_iff, decide_eq_false_iff_not] at g3
    have g4 : ¬ vs.getD k 0 < d.lo ∧ ¬ d.hi < vs.getD k 0 := g3
    ((conv=>whnf);repeat(refine And.intro (by omega) ?_;(conv=>whnf)))
    (refine EvDraw.one (.q 0 (.q 1 (.q 2 (.q 3 (.q 4 (.q 5 (.q 6 (.q 7 (.q 8 (.q 9 (.q 10 (.q 11 (.q 12 (.q 13 (.q 14 (.q 15 (.q 16 (.q 17 (.q 18 (.q 19 (.q 20 (.q 21 (.q 22 (.q 23 (.q 24 (.q 25 (.q 26 (.q 27 (.q 28 (.q 29 (.q 30 (.q 31 (.z))))))))))))))))))))))))))))))))) (by kernel_rfl) ?_)
    ((conv=>whnf);(repeat(refine And.intro ?_ ?_;(focus((first|omega|exact⟨rfl,True.intro⟩|exact⟨rfl,rfl,True.intro⟩|rfl|(simp only[List.length_set];first|omega|(refine⟨?_,?_⟩<;>omega)|(refine⟨?_,?_,?_⟩<;>omega))|(intro hg;(try simp only[bB]at hg);first|omega|(refine⟨?_,?_⟩<;>omega)|(refine⟨?_,?_,?_⟩<;>first|omega|(show _<_;(try simp only[List.length_set]);omega)|exact leT rfl))|(refine⟨?_,?_⟩<;>omega)|(refine⟨?_,?_,?_⟩<;>first|omega|(show _<_;(try simp only[List.length_set]);omega)|exact leT rfl)|(simp only[show rI.d=(0:Int)from rfl];omega));done));(conv=>whnf))))
    refine EvIf.split (fun g5 => ?_) (fun g5 => ?_)
    · simp only [Bool.or_eq_true, Bool.and_eq_true, decide_eq_true_eq] at g5
      ((conv=>whnf);repeat(refine And.intro (by omega) ?_;(conv=>whnf)))
      refine EvRet.ret (fun _ => ?_)
      rw [histB_f.2 (fun hh => by
        have h1 := (hh.2.1 k (by omega)).2 (by omega)
        have g6 : (0 : Int) < k ∧ (vs.getD k 0 - vs.getD ((k : Int) - 1).toNat 0 < d.down ∨ d.up < vs.getD k 0 - vs.getD ((k : Int) - 1).toNat 0) := g5
        rw [b3] at g6
        omega)]
      rfl
    · simp only [Bool.or_eq_false_iff, Bool.and_eq_false_iff, decide_eq_false_iff_not] at g5
      have g6 : ¬ (0 : Int) < k ∨ (¬ vs.getD k 0 - vs.getD ((k : Int) - 1).toNat 0 < d.down ∧ ¬ d.up < vs.getD k 0 - vs.getD ((k : Int) - 1).toNat 0) := g5
      rw [b3] at g6
      ((conv=>whnf);repeat(refine And.intro (by omega) ?_;(conv=>whnf)))
      refine LoopI.back (k + 1) ⟨by omega, fun i hi => ?_⟩ (by omega) (Sub.of [] [] rfl ?_)
      · by_cases hik : i = k
        · subst hik
          exact ⟨by omega, fun h0 => by omega⟩
        · exact hk2 i (by omega)
      · ((repeat' (refine And.intro ?_ ?_)) <;> first | rfl | exact True.intro | omega)
  simp only [decide_eq_false_iff_not] at g2
  have hk3 : k = vs.length := by omega
  subst hk3
  ((conv=>whnf);repeat(refine And.intro (by omega) ?_;(conv=>whnf)))
  refine EvLoop.inv (α := Nat) (fun j => j ≤ l.length ∧ ∀ i, i < j → HoldsP d (l.getD i cl0) vs) (fun j => l.length - j)
    (fun j => [(9, [], .v (.int .i64 ((j : Int)))), (1, [], .s 0 4 l.length c1), (2, [], .s 1 1 vs.length c2), (3, [], .p 2 0)])
    (fun j => [⟨2, true, 27, 12, 1, .cs (dcS nm (.v (.slice A ln c)) d)⟩, ⟨1, false, 3, 1, c2, .rows Int rI (vs)⟩, ⟨0, false, 52, 4, c1, .rows Cl rC (l)⟩]) 3 0 ⟨by omega, fun i hi => by omega⟩ (Sub.of [] [] rfl ?_) ?_
  · ((repeat' (refine And.intro ?_ ?_)) <;> first | rfl | exact True.intro | omega)
  intro j ⟨hj, hj2⟩
  ((conv=>whnf);repeat(refine And.intro (by omega) ?_;(conv=>whnf)))
  refine EvIf.split (fun g3 => ?_) (fun g3 => ?_)
  · simp only [decide_eq_true_eq] at g3
    have hm : l.getD j cl0 ∈ l := by rw [List.getD_eq_getElem?_getD, List.getElem?_eq_getElem (by omega)]; exact List.getElem_mem _
    ((conv=>whnf);repeat(refine And.intro (by omega) ?_;(conv=>whnf)))
    (refine EvDraw.one (.q 0 (.q 1 (.q 2 (.q 3 (.q 4 (.q 5 (.n 6 true (.q 7 (.z)) (.e)))))))) (by kernel_rfl) ?_)
    ((conv=>whnf);(repeat(refine And.intro ?_ ?_;(focus((first|omega|exact⟨rfl,True.intro⟩|exact⟨rfl,rfl,True.intro⟩|rfl|(simp only[List.length_set];first|omega|(refine⟨?_,?_⟩<;>omega)|(refine⟨?_,?_,?_⟩<;>omega))|(intro hg;(try simp only[bB]at hg);first|omega|(refine⟨?_,?_⟩<;>omega)|(refine⟨?_,?_,?_⟩<;>first|omega|(show _<_;(try simp only[List.length_set]);omega)|exact leT rfl))|(refine⟨?_,?_⟩<;>omega)|(refine⟨?_,?_,?_⟩<;>first|omega|(show _<_;(try simp only[List.length_set]);omega)|exact leT rfl)|(simp only[show rI.d=(0:Int)from rfl];omega));done));(conv=>whnf))))
    refine EvCall.plain Try.call70 (.v (.bool (holdsB' d (l.getD j cl0) vs))) rfl (fun ρ W hp => ref_holdsG_s nm A ln c d (l.getD j cl0) _ vs W hT (hp.rowsIn (R := rI) (n := 1) (c := c2) (xs := vs) rfl (by decide) e3 e4 1)) ?_
    ((conv=>whnf);repeat(refine And.intro (by omega) ?_;(conv=>whnf)))
    refine EvIf.split (fun g4 => ?_) (fun g4 => ?_)
    · simp only [Bool.not_eq_true'] at g4
      ((conv=>whnf);repeat(refine And.intro (by omega) ?_;(conv=>whnf)))
      refine EvRet.ret (fun _ => ?_)
      rw [histB_f.2 (fun hh => (holdsB'_f.1 g4) (hh.2.2 _ hm))]
      rfl
    · simp only [Bool.not_eq_false'] at g4
      ((conv=>whnf);repeat(refine And.intro (by omega) ?_;(conv=>whnf)))
      refine LoopI.back (j + 1) ⟨by omega, fun i hi => ?_⟩ (by omega) (Sub.of [] [] rfl ?_)
      · by_cases hij : i = j
        · subst hij
          exact holdsB'_t.1 g4
        · exact hj2 i (by omega)
      · ((repeat' (refine And.intro ?_ ?_)) <;> first | rfl | exact True.intro | omega)
  · simp only [decide_eq_false_iff_not] at g3
    have hfin : histB d l vs = true := histB_t.2 ⟨hlen, hk2, fun x hx => by
      obtain ⟨i, hi, rfl⟩ := List.getElem_of_mem hx
      have := hj2 i (by omega)
      rwa [List.getD_eq_getElem?_getD, List.getElem?_eq_getElem hi] at this⟩
    ((conv=>whnf);repeat(refine And.intro (by omega) ?_;(conv=>whnf)))
    refine EvRet.ret (fun _ => ?_)
    rw [hfin]
    rfl

set_option maxRecDepth 10000 in
theorem hagrees_s (V v u : Value) (d : Dc) (l : List Cl) (vs : List Int) (w : World) (h : DeclIs w V d) (hI : DcI d) (hv : RowsIn rC w v l) (hu : RowsIn rI w u vs)
    (hvs : ∀ i, -1099511627776 ≤ vs.getD i 0 ∧ vs.getD i 0 ≤ 1099511627776) :
    Con Try.prog 41 #[V, v, u] w (Ret w (.bool (agB d l vs))) := by
  have hD := h
  obtain ⟨nm, A, c, lb, rfl, hnm, hlab, hS⟩ := h
  obtain ⟨A1, c1, rfl, e1, e2⟩ := hv.form
  obtain ⟨A2, c2, rfl, e3, e4⟩ := hu.form
  refine enter tabOk mixed Try.func41 rfl Try.ntmps41 Try.results41 [.a (dcS nm (.v (.slice A lb.length c)) d), .s 0 4 l.length c1, .s 1 1 vs.length c2] (fun n => if n = 0 then A1 else A2) [⟨1, false, 3, 1, c2, .rows Int rI (vs)⟩, ⟨0, false, 52, 4, c1, .rows Cl rC (l)⟩] 2 rfl rfl (.ro (.ro (hp0 _ _ _) _ rfl rfl rfl (ro_rows hv rfl _)) _ rfl rfl rfl (ro_rows hu rfl _)) ?_
  ((conv=>whnf);repeat(refine And.intro (by omega) ?_;(conv=>whnf)))
  refine EvCall.plain Try.call36 (.v (.int .i64 (validCode d))) rfl (fun ρ W hp => decl_valid_s _ d W (hD.below hp.bel) hI) ?_
  by_cases hvc : validCode d = 0
  case neg =>
    ((conv=>whnf);repeat(refine And.intro (by omega) ?_;(conv=>whnf)))
    refine EvCallC.off Try.call83 (by simp [hvc]) (.v (.int .i64 0)) rfl ?_
    ((conv=>whnf);repeat(refine And.intro (by omega) ?_;(conv=>whnf)))
    refine EvIf.pos (by simp [hvc]) ?_
    ((conv=>whnf);repeat(refine And.intro (by omega) ?_;(conv=>whnf)))
    refine EvRet.ret (fun _ => ?_)
    rw [agB_f.2 (fun h' => hvc h'.1)]
    rfl
  rw [hvc]
  have hbd := valid_bounds hvc
  have hT : DcL d := ⟨by omega, by omega, by omega⟩
  ((conv=>whnf);repeat(refine And.intro (by omega) ?_;(conv=>whnf)))
  refine EvCallC.plain Try.call83 (.v (.int .i64 (d.last - d.first + 1))) rfl (fun _ ρ W hp => span_s _ _ _ _ d W (by omega) (by omega)) ?_
  ((conv=>whnf);repeat(refine And.intro (by omega) ?_;(conv=>whnf)))
  refine EvIf.split (fun g1 => ?_) (fun g1 => ?_)
  · simp only [Bool.or_eq_true, Bool.not_eq_true', decide_eq_false_iff_not, decide_eq_true_eq] at g1
    ((conv=>whnf);repeat(refine And.intro (by omega) ?_;(conv=>whnf)))
    refine EvRet.ret (fun _ => ?_)
    rw [agB_f.2 (fun hh => by have h1 := hh.2.1; have h2 := hh.2.2.1; simp at g1; omega)]
    rfl
  have hlen : l.length ≤ 4096 ∧ (vs.length : Int) = d.last - d.first + 1 := by simp at g1; omega
  rw [agB_ok hvc hlen.1]
  ((conv=>whnf);repeat(refine And.intro (by omega) ?_;(conv=>whnf)))
  refine EvLoop.inv (α := Nat) (fun k => k ≤ vs.length ∧ ∀ i : Nat, i < k → (d.lo ≤ vs.getD i 0 ∧ vs.getD i 0 ≤ d.hi) ∧ (0 < i → d.down ≤ vs.getD i 0 - vs.getD (i - 1) 0 ∧ vs.getD i 0 - vs.getD (i - 1) 0 ≤ d.up)) (fun k => vs.length - k)
    (fun k => [(28, [], .v (.int .i64 ((k : Int)))), (27, [], .v (.int .i64 ((vs.length : Int)))), (26, [], .s 1 1 vs.length c2), (1, [], .s 0 4 l.length c1), (2, [], .s 1 1 vs.length c2), (3, [], .p 2 0)])
    (fun k => [⟨2, true, 27, 12, 1, .cs (dcS nm (.v (.slice A lb.length c)) d)⟩, ⟨1, false, 3, 1, c2, .rows Int rI vs⟩, ⟨0, false, 52, 4, c1, .rows Cl rC l⟩]) 3 0 ⟨by omega, fun i hi => by omega⟩ (Sub.of [] [] rfl ?_) ?_
  · ((repeat' (refine And.intro ?_ ?_)) <;> first | rfl | exact True.intro | omega)
  intro k ⟨hk, hk2⟩
  have b1 : -1099511627776 ≤ vs.getD (k : Int).toNat rI.d ∧ vs.getD (k : Int).toNat rI.d ≤ 1099511627776 := hvs k
  have b2 : -1099511627776 ≤ vs.getD ((k : Int) - 1).toNat rI.d ∧ vs.getD ((k : Int) - 1).toNat rI.d ≤ 1099511627776 := hvs ((k : Int) - 1).toNat
  have b3 : ((k : Int) - 1).toNat = k - 1 := by omega
  ((conv=>whnf);repeat(refine And.intro (by omega) ?_;(conv=>whnf)))
  refine EvIf.split (fun g2 => ?_) (fun g2 => ?_)
  · simp only [decide_eq_true_eq] at g2
    ((conv=>whnf);(repeat(refine And.intro ?_ ?_;(focus((first|omega|exact⟨rfl,True.intro⟩|exact⟨rfl,rfl,True.intro⟩|rfl|(simp only[List.length_set];first|omega|(refine⟨?_,?_⟩<;>omega)|(refine⟨?_,?_,?_⟩<;>omega))|(intro hg;(try simp only[bB]at hg);first|omega|(refine⟨?_,?_⟩<;>omega)|(refine⟨?_,?_,?_⟩<;>first|omega|(show _<_;(try simp only[List.length_set]);omega)|exact leT rfl))|(refine⟨?_,?_⟩<;>omega)|(refine⟨?_,?_,?_⟩<;>first|omega|(show _<_;(try simp only[List.length_set]);omega)|exact leT rfl)|(simp only[show rI.d=(0:Int)from rfl];omega));done));(conv=>whnf))))
    refine EvIf.split (fun g3 => ?_) (fun g3 => ?_)
    · simp only [Bool.or_eq_true, decide_eq_true_eq] at g3
      have g4 : vs.getD k 0 < d.lo ∨ d.hi < vs.getD k 0 := g3
      ((conv=>whnf);repeat(refine And.intro (by omega) ?_;(conv=>whnf)))
      refine EvRet.ret (fun _ => ?_)
      rw [histB_f.2 (fun hh => by have := hh.2.1 k (by omega); omega)]
      rfl
    simp only [Bool.or_eq_false_iff, decide_eq_false_iff_not] at g3
    have g4 : ¬ vs.getD k 0 < d.lo ∧ ¬ d.hi < vs.getD k 0 := g3
    ((conv=>whnf);repeat(refine And.intro (by omega) ?_;(conv=>whnf)))
    (refine EvDraw.one (.q 0 (.q 1 (.q 2 (.q 3 (.q 4 (.q 5 (.q 6 (.q 7 (.q 8 (.q 9 (.q 10 (.q 11 (.q 12 (.q 13 (.q 14 (.q 15 (.q 16 (.q 17 (.q 18 (.q 19 (.q 20 (.q 21 (.q 22 (.q 23 (.q 24 (.q 25 (.z))))))))))))))))))))))))))) (by kernel_rfl) ?_)
    ((conv=>whnf);(repeat(refine And.intro ?_ ?_;(focus((first|omega|exact⟨rfl,True.intro⟩|exact⟨rfl,rfl,True.intro⟩|rfl|(simp only[List.length_set];first|omega|(refine⟨?_,?_⟩<;>omega)|(refine⟨?_,?_,?_⟩<;>omega))|(intro hg;(try simp only[bB]at hg);first|omega|(refine⟨?_,?_⟩<;>omega)|(refine⟨?_,?_,?_⟩<;>first|omega|(show _<_;(try simp only[List.length_set]);omega)|exact leT rfl))|(refine⟨?_,?_⟩<;>omega)|(refine⟨?_,?_,?_⟩<;>first|omega|(show _<_;(try simp only[List.length_set]);omega)|exact leT rfl)|(simp only[show rI.d=(0:Int)from rfl];omega));done));(conv=>whnf))))
    refine EvIf.split (fun g5 => ?_) (fun g5 => ?_)
    · simp only [Bool.or_eq_true, Bool.and_eq_true, decide_eq_true_eq] at g5
      ((conv=>whnf);repeat(refine And.intro (by omega) ?_;(conv=>whnf)))
      refine EvRet.ret (fun _ => ?_)
      rw [histB_f.2 (fun hh => by
        have h1 := (hh.2.1 k (by omega)).2 (by omega)
        have g6 : (0 : Int) < k ∧ (vs.getD k 0 - vs.getD ((k : Int) - 1).toNat 0 < d.down ∨ d.up < vs.getD k 0 - vs.getD ((k : Int) - 1).toNat 0) := g5
        rw [b3] at g6
        omega)]
      rfl
    · simp only [Bool.or_eq_false_iff, Bool.and_eq_false_iff, decide_eq_false_iff_not] at g5
      have g6 : ¬ (0 : Int) < k ∨ (¬ vs.getD k 0 - vs.getD ((k : Int) - 1).toNat 0 < d.down ∧ ¬ d.up < vs.getD k 0 - vs.getD ((k : Int) - 1).toNat 0) := g5
      rw [b3] at g6
      ((conv=>whnf);repeat(refine And.intro (by omega) ?_;(conv=>whnf)))
      refine LoopI.back (k + 1) ⟨by omega, fun i hi => ?_⟩ (by omega) (Sub.of [] [] rfl ?_)
      · by_cases hik : i = k
        · subst hik
          exact ⟨by omega, fun h0 => by omega⟩
        · exact hk2 i (by omega)
      · ((repeat' (refine And.intro ?_ ?_)) <;> first | rfl | exact True.intro | omega)
  simp only [decide_eq_false_iff_not] at g2
  have hk3 : k = vs.length := by omega
  subst hk3
  ((conv=>whnf);repeat(refine And.intro (by omega) ?_;(conv=>whnf)))
  refine EvLoop.inv (α := Nat) (fun j => j ≤ l.length ∧ ∀ i, i < j → HoldsP d (l.getD i cl0) vs) (fun j => l.length - j)
    (fun j => [(72, [], .v (.int .i64 ((j : Int)))), (71, [], .v (.int .i64 ((l.length : Int)))), (70, [], .s 0 4 l.length c1), (2, [], .s 1 1 vs.length c2), (3, [], .p 2 0)])
    (fun j => [⟨2, true, 27, 12, 1, .cs (dcS nm (.v (.slice A lb.length c)) d)⟩, ⟨1, false, 3, 1, c2, .rows Int rI vs⟩, ⟨0, false, 52, 4, c1, .rows Cl rC l⟩]) 3 0 ⟨by omega, fun i hi => by omega⟩ (Sub.of [] [] rfl ?_) ?_
  · ((repeat' (refine And.intro ?_ ?_)) <;> first | rfl | exact True.intro | omega)
  intro j ⟨hj, hj2⟩
  ((conv=>whnf);repeat(refine And.intro (by omega) ?_;(conv=>whnf)))
  refine EvIf.split (fun g3 => ?_) (fun g3 => ?_)
  · simp only [decide_eq_true_eq] at g3
    have hm : l.getD j cl0 ∈ l := by rw [List.getD_eq_getElem?_getD, List.getElem?_eq_getElem (by omega)]; exact List.getElem_mem _
    ((conv=>whnf);(repeat(refine And.intro ?_ ?_;(focus((first|omega|exact⟨rfl,True.intro⟩|exact⟨rfl,rfl,True.intro⟩|rfl|(simp only[List.length_set];first|omega|(refine⟨?_,?_⟩<;>omega)|(refine⟨?_,?_,?_⟩<;>omega))|(intro hg;(try simp only[bB]at hg);first|omega|(refine⟨?_,?_⟩<;>omega)|(refine⟨?_,?_,?_⟩<;>first|omega|(show _<_;(try simp only[List.length_set]);omega)|exact leT rfl))|(refine⟨?_,?_⟩<;>omega)|(refine⟨?_,?_,?_⟩<;>first|omega|(show _<_;(try simp only[List.length_set]);omega)|exact leT rfl)|(simp only[show rI.d=(0:Int)from rfl];omega));done));(conv=>whnf))))
    refine EvCall.plain Try.call84 (.v (.bool (holdsB' d (l.getD j cl0) vs))) rfl (fun ρ W hp => holdsG_s nm A lb.length c d (l.getD j cl0) _ vs W hT (hp.rowsIn (R := rI) (n := 1) (c := c2) (xs := vs) rfl (by decide) e3 e4 1)) ?_
    ((conv=>whnf);repeat(refine And.intro (by omega) ?_;(conv=>whnf)))
    refine EvIf.split (fun g4 => ?_) (fun g4 => ?_)
    · simp only [Bool.not_eq_true'] at g4
      ((conv=>whnf);repeat(refine And.intro (by omega) ?_;(conv=>whnf)))
      refine EvRet.ret (fun _ => ?_)
      rw [histB_f.2 (fun hh => (holdsB'_f.1 g4) (hh.2.2 _ hm))]
      rfl
    · simp only [Bool.not_eq_false'] at g4
      ((conv=>whnf);repeat(refine And.intro (by omega) ?_;(conv=>whnf)))
      refine LoopI.back (j + 1) ⟨by omega, fun i hi => ?_⟩ (by omega) (Sub.of [] [] rfl ?_)
      · by_cases hij : i = j
        · subst hij
          exact holdsB'_t.1 g4
        · exact hj2 i (by omega)
      · ((repeat' (refine And.intro ?_ ?_)) <;> first | rfl | exact True.intro | omega)
  · simp only [decide_eq_false_iff_not] at g3
    have hfin : histB d l vs = true := histB_t.2 ⟨hlen.2, hk2, fun x hx => by
      obtain ⟨i, hi, rfl⟩ := List.getElem_of_mem hx
      have := hj2 i (by omega)
      rwa [List.getD_eq_getElem?_getD, List.getElem?_eq_getElem hi] at this⟩
    ((conv=>whnf);repeat(refine And.intro (by omega) ?_;(conv=>whnf)))
    refine EvRet.ret (fun _ => ?_)
    rw [hfin]
    rfl
end Go.Proofs.Ytnoenmacakbhdaa
