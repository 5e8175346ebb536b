
/- Lossy steps: thinning.keep, walked. -/
import Derived.Test.YtpnngbfmmjjnaaaLm
import Derived.Test.YtpnngbfmmjjnaaaEr
namespace Go.Proofs.Ytpnngbfmmjjnaaa
open Go.RowKit
set_option linter.unusedVariables false
set_option linter.unusedSimpArgs false

/-- May all go, where the bands of what stays are these? -/
noncomputable def tstB (d : Dc) (x : Env12) (most f : Int) (lo hi : List Int) : Bool :=
  (decide ((newR d (envC ⟨f, lo, hi⟩)).2 = 0) && decide ((growthR x (newR d (envC ⟨f, lo, hi⟩)).1).2 = 0)) && decide ((growthR x (newR d (envC ⟨f, lo, hi⟩)).1).1 ≤ most)
/-- What is kept, by halves. -/
noncomputable def keepW (T : List Int → List Int → Bool) (f : Int) : Nat → List Int → List Int → List Cl → List Cl
  | 0, _, _, _ => []
  | n + 1, lo, hi, l =>
    if l.length = 0 then [] else if l.length = 1 then (if T lo hi = true then [] else l) else
      keepW T f n (wAll f lo hi (l.drop (l.length / 2))).1 (wAll f lo hi (l.drop (l.length / 2))).2 (l.take (l.length / 2)) ++
        keepW T f n (wAll f lo hi (keepW T f n (wAll f lo hi (l.drop (l.length / 2))).1 (wAll f lo hi (l.drop (l.length / 2))).2 (l.take (l.length / 2)))).1
          (wAll f lo hi (keepW T f n (wAll f lo hi (l.drop (l.length / 2))).1 (wAll f lo hi (l.drop (l.length / 2))).2 (l.take (l.length / 2)))).2 (l.drop (l.length / 2))
theorem keepW_mem (T : List Int → List Int → Bool) (f : Int) : ∀ (n : Nat) (lo hi : List Int) (l : List Cl), (∀ c ∈ keepW T f n lo hi l, c ∈ l) ∧ (keepW T f n lo hi l).length ≤ l.length
  | 0, _, _, l => by simp [keepW]
  | n + 1, lo, hi, l => by
    unfold keepW
    split
    · simp
    · split
      · split
        · simp
        · exact ⟨fun c h => h, Nat.le_refl _⟩
      · have h1 := keepW_mem T f n (wAll f lo hi (l.drop (l.length / 2))).1 (wAll f lo hi (l.drop (l.length / 2))).2 (l.take (l.length / 2))
        generalize keepW T f n (wAll f lo hi (l.drop (l.length / 2))).1 (wAll f lo hi (l.drop (l.length / 2))).2 (l.take (l.length / 2)) = K at *
        have h2 := keepW_mem T f n (wAll f lo hi K).1 (wAll f lo hi K).2 (l.drop (l.length / 2))
        refine ⟨fun c hc => ?_, ?_⟩
        · rcases List.mem_append.1 hc with hc | hc
          · exact List.mem_of_mem_take (h1.1 c hc)
          · exact List.mem_of_mem_drop (h2.1 c hc)
        · have e1 : (l.take (l.length / 2)).length = l.length / 2 := by simp; omega
          have e2 : (l.drop (l.length / 2)).length = l.length - l.length / 2 := by simp
          rw [List.length_append]
          omega
theorem map_add0 (A : Option Addr) (n : Nat) : A.map (·.add (0 * n)) = A := by
  cases A with
  | none => rfl
  | some a => simp [Addr.add]
def thS (nm : ByteArray) (A : Option Addr) (ln c : Nat) (d : Dc) (f : Int) (a b : SV) (most : Int) : List SV :=
  [.v (.string nm), .v (.slice A ln c), .v (.int .i64 d.u0), .v (.int .i64 d.u1), .v (.int .i64 d.u2), .v (.int .i64 d.lo), .v (.int .i64 d.hi), .v (.int .i64 d.down), .v (.int .i64 d.up), .v (.int .i64 d.first), .v (.int .i64 d.last), .v (.int .i64 d.budget), .v (.int .i64 f), a, b, .v (.int .i64 most)]
set_option maxHeartbeats 2000000 in
set_option maxRecDepth 10000 in
theorem keep_s (d : Dc) (x : Env12) (most f : Int) (hI : DcI d) (hf : 0 ≤ f ∧ f ≤ 1048576) (hxl : x.lo.length ≤ 2000000) (N : Nat) (hN : N ≤ 1000000) : ∀ (n : Nat) (l : List Cl) (lo hi : List Int) (nm : ByteArray) (LA : Option Addr) (lb : List (ByteArray × ByteArray)) (lc : Nat) (B : Addr) (X1 X2 A1 A2 A3 : Option Addr) (m1 m2 m3 m4 x1 x2 c1 c2 c3 : Nat) (w : World),
    l.length ≤ n → l.length ≤ 1000000 → lo.length = N → hi.length = N → (∀ c ∈ l, f ≤ c.f ∧ c.f ≤ c.t ∧ c.t < f + N) →
    DeclIs w (.agg (dcCells nm (.slice LA lb.length lc) d)) d → RowsIn rI w (.slice X1 m1 x1) x.lo → RowsIn rI w (.slice X2 m2 x2) x.hi → RowsIn rI w (.slice A1 m3 c1) lo → RowsIn rI w (.slice A2 m4 c2) hi → RowsIn rC w (.slice A3 l.length c3) l →
    PtrIn w (.pointer (some B)) (denL (fun n => if n = 1 then X1 else X2) (thS nm LA lb.length lc d x.f (.s 1 1 x.lo.length x1) (.s 2 1 x.hi.length x2) most)) →
    Con Try.prog 51 #[.pointer (some B), envV f (.slice A1 m3 c1) (.slice A2 m4 c2), .slice A3 l.length c3] w (RetSub rC 62 w A3 l (keepW (tstB d x most f) f n lo hi l)) := by
  intro n
  induction n with
  | zero =>
    intro l lo hi nm LA lb lc B X1 X2 A1 A2 A3 m1 m2 m3 m4 x1 x2 c1 c2 c3 w hn hl0 h1 h2 hc hD hx1 hx2 ha1 ha2 hv ht
    obtain ⟨_, _, ee, _, _⟩ := ha1.form
    simp at ee
    obtain ⟨rfl, rfl, rfl⟩ := ee
    obtain ⟨_, _, ee, _, _⟩ := ha2.form
    simp at ee
    obtain ⟨rfl, rfl, rfl⟩ := ee
    obtain ⟨_, _, ee, e5, e6⟩ := hv.form
    simp at ee
    obtain ⟨rfl, rfl⟩ := ee
    have hl : l.length = 0 := by omega
    refine enter tabOk mixed Try.func51 rfl Try.ntmps51 Try.results51 [.p 0 0, .a [.v (.int .i64 f), .s 1 1 lo.length c1, .s 2 1 hi.length c2], .s 3 4 l.length c3] (fun n => if n = 0 then some B else if n = 1 then A1 else if n = 2 then A2 else A3) [] 4 rfl rfl ⟨Below.refl _ _, by simp, .nil, by simp, by simp⟩ ?_
    ((conv=>whnf);(repeat(refine And.intro ?_ ?_;(focus((first|omega|exact⟨rfl,True.intro⟩|exact⟨rfl,rfl,True.intro⟩|rfl|(simp only[List.length_set];first|omega|(refine⟨?_,?_⟩<;>omega)|(refine⟨?_,?_,?_⟩<;>omega))|(intro hg;(try simp only[bB]at hg);first|omega|(refine⟨?_,?_⟩<;>omega)|(refine⟨?_,?_,?_⟩<;>first|omega|(show _<_;(try simp only[List.length_set]);omega)|exact leT rfl))|(refine⟨?_,?_⟩<;>omega)|(refine⟨?_,?_,?_⟩<;>first|omega|(show _<_;(try simp only[List.length_set]);omega)|exact leT rfl)|(simp only[show rI.d=(0:Int)from rfl];omega));done));(conv=>whnf))))
    refine EvIf.pos (by simp [hl]) ?_
    ((conv=>whnf);(repeat(refine And.intro ?_ ?_;(focus((first|omega|exact⟨rfl,True.intro⟩|exact⟨rfl,rfl,True.intro⟩|rfl|(simp only[List.length_set];first|omega|(refine⟨?_,?_⟩<;>omega)|(refine⟨?_,?_,?_⟩<;>omega))|(intro hg;(try simp only[bB]at hg);first|omega|(refine⟨?_,?_⟩<;>omega)|(refine⟨?_,?_,?_⟩<;>first|omega|(show _<_;(try simp only[List.length_set]);omega)|exact leT rfl))|(refine⟨?_,?_⟩<;>omega)|(refine⟨?_,?_,?_⟩<;>first|omega|(show _<_;(try simp only[List.length_set]);omega)|exact leT rfl)|(simp only[show rI.d=(0:Int)from rfl];omega));done));(conv=>whnf))))
    exact EvRet.sub_nil (by simp [keepW])
  | succ n ih =>
    intro l lo hi nm LA lb lc B X1 X2 A1 A2 A3 m1 m2 m3 m4 x1 x2 c1 c2 c3 w hn hl0 h1 h2 hc hD hx1 hx2 ha1 ha2 hv ht
    obtain ⟨_, _, ee, e1, e2⟩ := ha1.form
    simp at ee
    obtain ⟨rfl, rfl, rfl⟩ := ee
    obtain ⟨_, _, ee, e3, e4⟩ := ha2.form
    simp at ee
    obtain ⟨rfl, rfl, rfl⟩ := ee
    have hA3 : 0 < l.length → ∃ b off, A3 = some ⟨b, off, none⟩ := fun h0 => by
      obtain ⟨A, c, e, _, _, _, h4⟩ := hv
      obtain ⟨b, off, hA, _⟩ := h4 h0
      simp at e
      exact ⟨b, off, by rw [e.1, hA]⟩
    obtain ⟨_, _, ee, e5, e6⟩ := hv.form
    simp at ee
    obtain ⟨rfl, rfl⟩ := ee
    obtain ⟨_, _, ee, e7, e8⟩ := hx1.form
    simp at ee
    obtain ⟨rfl, rfl, rfl⟩ := ee
    obtain ⟨_, _, ee, e9, e10⟩ := hx2.form
    simp at ee
    obtain ⟨rfl, rfl, rfl⟩ := ee
    have ht' : PtrIn w (.pointer (some B)) (denL (fun n => if n = 0 then some B else if n = 1 then A1 else if n = 2 then A2 else if n = 3 then A3 else if n = 4 then X1 else X2) (thS nm LA lb.length lc d x.f (.s 4 1 x.lo.length x1) (.s 5 1 x.hi.length x2) most)) := ht
    refine enterP tabOk mixed Try.func51 rfl Try.ntmps51 Try.results51 [.p 0 0, .a [.v (.int .i64 f), .s 1 1 lo.length c1, .s 2 1 hi.length c2], .s 3 4 l.length c3] (fun n => if n = 0 then some B else if n = 1 then A1 else if n = 2 then A2 else if n = 3 then A3 else if n = 4 then X1 else X2)
      [⟨5, false, 3, 1, x2, .rows Int rI x.hi⟩, ⟨4, false, 3, 1, x1, .rows Int rI x.lo⟩, ⟨3, false, 62, 4, c3, .rows Cl rC l⟩, ⟨2, false, 3, 1, c2, .rows Int rI hi⟩, ⟨1, false, 3, 1, c1, .rows Int rI lo⟩, ⟨0, false, 83, 16, 1, .cs (thS nm LA lb.length lc d x.f (.s 4 1 x.lo.length x1) (.s 5 1 x.hi.length x2) most)⟩] 6 rfl rfl
      (.ro (.ro (.ro (.ro (.ro (.ro (hp0 _ _ _) _ rfl rfl rfl (ro_ptr ht' rfl)) _ rfl rfl rfl (ro_rows ha1 rfl _)) _ rfl rfl rfl (ro_rows ha2 rfl _)) _ rfl rfl rfl (ro_rows hv rfl _)) _ rfl rfl rfl (ro_rows hx1 rfl _)) _ rfl rfl rfl (ro_rows hx2 rfl _)) ?_
    ((conv=>whnf);(repeat(refine And.intro ?_ ?_;(focus((first|omega|exact⟨rfl,True.intro⟩|exact⟨rfl,rfl,True.intro⟩|rfl|(simp only[List.length_set];first|omega|(refine⟨?_,?_⟩<;>omega)|(refine⟨?_,?_,?_⟩<;>omega))|(intro hg;(try simp only[bB]at hg);first|omega|(refine⟨?_,?_⟩<;>omega)|(refine⟨?_,?_,?_⟩<;>first|omega|(show _<_;(try simp only[List.length_set]);omega)|exact leT rfl))|(refine⟨?_,?_⟩<;>omega)|(refine⟨?_,?_,?_⟩<;>first|omega|(show _<_;(try simp only[List.length_set]);omega)|exact leT rfl)|(simp only[show rI.d=(0:Int)from rfl];omega));done));(conv=>whnf))))
    refine EvIf.split (fun g1 => ?_) (fun g1 => ?_)
    · have hl : l.length = 0 := by have := of_decide_eq_true g1; omega
      ((conv=>whnf);(repeat(refine And.intro ?_ ?_;(focus((first|omega|exact⟨rfl,True.intro⟩|exact⟨rfl,rfl,True.intro⟩|rfl|(simp only[List.length_set];first|omega|(refine⟨?_,?_⟩<;>omega)|(refine⟨?_,?_,?_⟩<;>omega))|(intro hg;(try simp only[bB]at hg);first|omega|(refine⟨?_,?_⟩<;>omega)|(refine⟨?_,?_,?_⟩<;>first|omega|(show _<_;(try simp only[List.length_set]);omega)|exact leT rfl))|(refine⟨?_,?_⟩<;>omega)|(refine⟨?_,?_,?_⟩<;>first|omega|(show _<_;(try simp only[List.length_set]);omega)|exact leT rfl)|(simp only[show rI.d=(0:Int)from rfl];omega));done));(conv=>whnf))))
      exact EvRet.sub_nil (by unfold keepW; rw [if_pos hl])
    have hl : l.length ≠ 0 := by have := of_decide_eq_false g1; omega
    ((conv=>whnf);(repeat(refine And.intro ?_ ?_;(focus((first|omega|exact⟨rfl,True.intro⟩|exact⟨rfl,rfl,True.intro⟩|rfl|(simp only[List.length_set];first|omega|(refine⟨?_,?_⟩<;>omega)|(refine⟨?_,?_,?_⟩<;>omega))|(intro hg;(try simp only[bB]at hg);first|omega|(refine⟨?_,?_⟩<;>omega)|(refine⟨?_,?_,?_⟩<;>first|omega|(show _<_;(try simp only[List.length_set]);omega)|exact leT rfl))|(refine⟨?_,?_⟩<;>omega)|(refine⟨?_,?_,?_⟩<;>first|omega|(show _<_;(try simp only[List.length_set]);omega)|exact leT rfl)|(simp only[show rI.d=(0:Int)from rfl];omega));done));(conv=>whnf))))
    refine EvIf.split (fun g2 => ?_) (fun g2 => ?_)
    · have hl1 : l.length = 1 := by have := of_decide_eq_true g2; omega
      have hK : keepW (tstB d x most f) f (n + 1) lo hi l = if tstB d x most f lo hi = true then [] else l := by unfold keepW; rw [if_neg hl, if_pos hl1]
      rw [hK]
      ((conv=>whnf);(repeat(refine And.intro ?_ ?_;(focus((first|omega|exact⟨rfl,True.intro⟩|exact⟨rfl,rfl,True.intro⟩|rfl|(simp only[List.length_set];first|omega|(refine⟨?_,?_⟩<;>omega)|(refine⟨?_,?_,?_⟩<;>omega))|(intro hg;(try simp only[bB]at hg);first|omega|(refine⟨?_,?_⟩<;>omega)|(refine⟨?_,?_,?_⟩<;>first|omega|(show _<_;(try simp only[List.length_set]);omega)|exact leT rfl))|(refine⟨?_,?_⟩<;>omega)|(refine⟨?_,?_,?_⟩<;>first|omega|(show _<_;(try simp only[List.length_set]);omega)|exact leT rfl)|(simp only[show rI.d=(0:Int)from rfl];omega));done));(conv=>whnf))))
      refine EvCall.rows (R := rC) (ty := 62) (xs := envC ⟨f, lo, hi⟩) Try.call68 (fun ρ W hp => envclaims_s ⟨f, lo, hi⟩ _ _ _ _ _ _ W (hp.rowsIn (R := rI) (n := 1) (c := c1) rfl (by decide) e1 e2 1) (hp.rowsIn (R := rI) (n := 2) (c := c2) rfl (by decide) e3 e4 1) ⟨by show -1000000000 ≤ f; omega, by show f ≤ 1000000000; omega⟩ (by show lo.length ≤ _; omega)) (fun cr hr1 hr2 => ?_)
      have hT : tstB d x most f lo hi = ((decide ((newR d (envC ⟨f, lo, hi⟩)).2 = 0) && decide ((growthR x (newR d (envC ⟨f, lo, hi⟩)).1).2 = 0)) && decide ((growthR x (newR d (envC ⟨f, lo, hi⟩)).1).1 ≤ most)) := rfl
      rw [hT]
      generalize envC ⟨f, lo, hi⟩ = R at *
      ((conv=>whnf);(repeat(refine And.intro ?_ ?_;(focus((first|omega|exact⟨rfl,True.intro⟩|exact⟨rfl,rfl,True.intro⟩|rfl|(simp only[List.length_set];first|omega|(refine⟨?_,?_⟩<;>omega)|(refine⟨?_,?_,?_⟩<;>omega))|(intro hg;(try simp only[bB]at hg);first|omega|(refine⟨?_,?_⟩<;>omega)|(refine⟨?_,?_,?_⟩<;>first|omega|(show _<_;(try simp only[List.length_set]);omega)|exact leT rfl))|(refine⟨?_,?_⟩<;>omega)|(refine⟨?_,?_,?_⟩<;>first|omega|(show _<_;(try simp only[List.length_set]);omega)|exact leT rfl)|(simp only[show rI.d=(0:Int)from rfl];omega));done));(conv=>whnf))))
      refine EvCall.two (ty := 3) (xs := (newR d R).1.lo) (ys := (newR d R).1.hi) (envES (newR d R).1.f (newR d R).2) (envES_den _ _) (envES_lt _ _) Try.call14 (fun ρ W hp => new_s _ _ d R W (hD.below hp.bel) hI (hp.rowsIn (R := rC) (n := 7) (c := cr) rfl (by decide) hr1 hr2 4)) (fun p1 p2 q1 q2 q3 q4 => ?_)
      generalize newR d R = y at *
      ((conv=>whnf);(repeat(refine And.intro ?_ ?_;(focus((first|omega|exact⟨rfl,True.intro⟩|exact⟨rfl,rfl,True.intro⟩|rfl|(simp only[List.length_set];first|omega|(refine⟨?_,?_⟩<;>omega)|(refine⟨?_,?_,?_⟩<;>omega))|(intro hg;(try simp only[bB]at hg);first|omega|(refine⟨?_,?_⟩<;>omega)|(refine⟨?_,?_,?_⟩<;>first|omega|(show _<_;(try simp only[List.length_set]);omega)|exact leT rfl))|(refine⟨?_,?_⟩<;>omega)|(refine⟨?_,?_,?_⟩<;>first|omega|(show _<_;(try simp only[List.length_set]);omega)|exact leT rfl)|(simp only[show rI.d=(0:Int)from rfl];omega));done));(conv=>whnf))))
      refine EvIf.split (fun g3 => ?_) (fun g3 => ?_)
      · have g4 : ¬ y.2 = 0 := by simpa using g3
        ((conv=>whnf);(repeat(refine And.intro ?_ ?_;(focus((first|omega|exact⟨rfl,True.intro⟩|exact⟨rfl,rfl,True.intro⟩|rfl|(simp only[List.length_set];first|omega|(refine⟨?_,?_⟩<;>omega)|(refine⟨?_,?_,?_⟩<;>omega))|(intro hg;(try simp only[bB]at hg);first|omega|(refine⟨?_,?_⟩<;>omega)|(refine⟨?_,?_,?_⟩<;>first|omega|(show _<_;(try simp only[List.length_set]);omega)|exact leT rfl))|(refine⟨?_,?_⟩<;>omega)|(refine⟨?_,?_,?_⟩<;>first|omega|(show _<_;(try simp only[List.length_set]);omega)|exact leT rfl)|(simp only[show rI.d=(0:Int)from rfl];omega));done));(conv=>whnf))))
        exact EvRet.sub_self (R := rC) hl1 hl1 (by simp [g4]) (by omega) e6 (fun ρ W hp => by
          obtain ⟨b, off, hb⟩ := hA3 (by omega)
          exact ⟨b, off, hb, (hp.pin.2 3 (by show 3 < 6; omega)).trans hb⟩)
      have g4 : y.2 = 0 := by simpa using g3
      obtain ⟨gr, hgr⟩ : ∃ g, growthR x y.1 = g := ⟨_, rfl⟩
      rw [hgr]
      ((conv=>whnf);(repeat(refine And.intro ?_ ?_;(focus((first|omega|exact⟨rfl,True.intro⟩|exact⟨rfl,rfl,True.intro⟩|rfl|(simp only[List.length_set];first|omega|(refine⟨?_,?_⟩<;>omega)|(refine⟨?_,?_,?_⟩<;>omega))|(intro hg;(try simp only[bB]at hg);first|omega|(refine⟨?_,?_⟩<;>omega)|(refine⟨?_,?_,?_⟩<;>first|omega|(show _<_;(try simp only[List.length_set]);omega)|exact leT rfl))|(refine⟨?_,?_⟩<;>omega)|(refine⟨?_,?_,?_⟩<;>first|omega|(show _<_;(try simp only[List.length_set]);omega)|exact leT rfl)|(simp only[show rI.d=(0:Int)from rfl];omega));done));(conv=>whnf))))
      (refine EvDraw.one (.q 0 (.q 1 (.q 2 (.q 3 (.q 4 (.n 5 false (.q 6 (.q 7 (.q 8 (.q 9 (.q 10 (.z)))))) (.e))))))) (by kernel_rfl) ?_)
      ((conv=>whnf);(repeat(refine And.intro ?_ ?_;(focus((first|omega|exact⟨rfl,True.intro⟩|exact⟨rfl,rfl,True.intro⟩|rfl|(simp only[List.length_set];first|omega|(refine⟨?_,?_⟩<;>omega)|(refine⟨?_,?_,?_⟩<;>omega))|(intro hg;(try simp only[bB]at hg);first|omega|(refine⟨?_,?_⟩<;>omega)|(refine⟨?_,?_,?_⟩<;>first|omega|(show _<_;(try simp only[List.length_set]);omega)|exact leT rfl))|(refine⟨?_,?_⟩<;>omega)|(refine⟨?_,?_,?_⟩<;>first|omega|(show _<_;(try simp only[List.length_set]);omega)|exact leT rfl)|(simp only[show rI.d=(0:Int)from rfl];omega));done));(conv=>whnf))))
      refine EvCall.plain Try.call23 (.t [.v (.int .i64 gr.1), .v (.int .i64 gr.2)]) rfl (fun ρ W hp => by
        rw [← hgr]
        exact growth_s x y.1 _ _ _ _ _ _ _ _ _ _ _ _ W (hp.rowsIn (R := rI) (n := 4) (c := x1) rfl (by decide) e7 e8 1) (hp.rowsIn (R := rI) (n := 5) (c := x2) rfl (by decide) e9 e10 1) (hp.rowsIn (R := rI) (n := 8) (c := p1) rfl (by decide) q1 q2 1) (hp.rowsIn (R := rI) (n := 9) (c := p2) rfl (by decide) q3 q4 1) hxl) ?_
      ((conv=>whnf);(repeat(refine And.intro ?_ ?_;(focus((first|omega|exact⟨rfl,True.intro⟩|exact⟨rfl,rfl,True.intro⟩|rfl|(simp only[List.length_set];first|omega|(refine⟨?_,?_⟩<;>omega)|(refine⟨?_,?_,?_⟩<;>omega))|(intro hg;(try simp only[bB]at hg);first|omega|(refine⟨?_,?_⟩<;>omega)|(refine⟨?_,?_,?_⟩<;>first|omega|(show _<_;(try simp only[List.length_set]);omega)|exact leT rfl))|(refine⟨?_,?_⟩<;>omega)|(refine⟨?_,?_,?_⟩<;>first|omega|(show _<_;(try simp only[List.length_set]);omega)|exact leT rfl)|(simp only[show rI.d=(0:Int)from rfl];omega));done));(conv=>whnf))))
      refine EvIf.split (fun g5 => ?_) (fun g5 => ?_)
      · ((conv=>whnf);(repeat(refine And.intro ?_ ?_;(focus((first|omega|exact⟨rfl,True.intro⟩|exact⟨rfl,rfl,True.intro⟩|rfl|(simp only[List.length_set];first|omega|(refine⟨?_,?_⟩<;>omega)|(refine⟨?_,?_,?_⟩<;>omega))|(intro hg;(try simp only[bB]at hg);first|omega|(refine⟨?_,?_⟩<;>omega)|(refine⟨?_,?_,?_⟩<;>first|omega|(show _<_;(try simp only[List.length_set]);omega)|exact leT rfl))|(refine⟨?_,?_⟩<;>omega)|(refine⟨?_,?_,?_⟩<;>first|omega|(show _<_;(try simp only[List.length_set]);omega)|exact leT rfl)|(simp only[show rI.d=(0:Int)from rfl];omega));done));(conv=>whnf))))
        exact EvRet.sub_nil (by rw [if_pos]; simpa [g4] using g5)
      · ((conv=>whnf);(repeat(refine And.intro ?_ ?_;(focus((first|omega|exact⟨rfl,True.intro⟩|exact⟨rfl,rfl,True.intro⟩|rfl|(simp only[List.length_set];first|omega|(refine⟨?_,?_⟩<;>omega)|(refine⟨?_,?_,?_⟩<;>omega))|(intro hg;(try simp only[bB]at hg);first|omega|(refine⟨?_,?_⟩<;>omega)|(refine⟨?_,?_,?_⟩<;>first|omega|(show _<_;(try simp only[List.length_set]);omega)|exact leT rfl))|(refine⟨?_,?_⟩<;>omega)|(refine⟨?_,?_,?_⟩<;>first|omega|(show _<_;(try simp only[List.length_set]);omega)|exact leT rfl)|(simp only[show rI.d=(0:Int)from rfl];omega));done));(conv=>whnf))))
        exact EvRet.sub_self (R := rC) hl1 hl1 (by rw [if_neg]; simpa [g4] using g5) (by omega) e6 (fun ρ W hp => by
          obtain ⟨b, off, hb⟩ := hA3 (by omega)
          exact ⟨b, off, hb, (hp.pin.2 3 (by show 3 < 6; omega)).trans hb⟩)
    have hl1 : l.length ≠ 1 := by have := of_decide_eq_false g2; omega
    have hK : keepW (tstB d x most f) f (n + 1) lo hi l = keepW (tstB d x most f) f n (wAll f lo hi (l.drop (l.length / 2))).1 (wAll f lo hi (l.drop (l.length / 2))).2 (l.take (l.length / 2)) ++
        keepW (tstB d x most f) f n (wAll f lo hi (keepW (tstB d x most f) f n (wAll f lo hi (l.drop (l.length / 2))).1 (wAll f lo hi (l.drop (l.length / 2))).2 (l.take (l.length / 2)))).1
          (wAll f lo hi (keepW (tstB d x most f) f n (wAll f lo hi (l.drop (l.length / 2))).1 (wAll f lo hi (l.drop (l.length / 2))).2 (l.take (l.length / 2)))).2 (l.drop (l.length / 2)) := by
      conv => { lhs; unfold keepW }
      rw [if_neg hl, if_neg hl1]
    rw [hK]
    clear hK
    have hdv : (l.length : Int).tdiv 2 = ((l.length / 2 : Nat) : Int) := rfl
    obtain ⟨H, hH⟩ : ∃ H, l.length / 2 = H := ⟨_, rfl⟩
    have hH1 : 1 ≤ H ∧ H < l.length := by omega
    have hH2 : H ≤ n ∧ l.length - H ≤ n := by omega
    rw [hH] at hdv ⊢
    clear hH
    have tl1 : (l.take H).length = H := by simp; omega
    have dl1 : (l.drop H).length = l.length - H := by simp
    have hct : ∀ c ∈ l.take H, f ≤ c.f ∧ c.f ≤ c.t ∧ c.t < f + N := fun c hc' => hc c (List.mem_of_mem_take hc')
    have hcd : ∀ c ∈ l.drop H, f ≤ c.f ∧ c.f ≤ c.t ∧ c.t < f + N := fun c hc' => hc c (List.mem_of_mem_drop hc')
    have hso : sOff 0 c3 (Int.toNat (H : Int)) = H := by unfold sOff; rw [if_neg (by omega)]; omega
    have w1 := wAll_len f lo hi (l.drop H)
    obtain ⟨b1, hb1⟩ : ∃ b, wAll f lo hi (l.drop H) = b := ⟨_, rfl⟩
    rw [hb1] at w1 ⊢
    obtain ⟨Lf, hLf⟩ : ∃ k, keepW (tstB d x most f) f n b1.1 b1.2 (l.take H) = k := ⟨_, rfl⟩
    rw [hLf]
    have hLm := keepW_mem (tstB d x most f) f n b1.1 b1.2 (l.take H)
    rw [hLf] at hLm
    have w2 := wAll_len f lo hi Lf
    obtain ⟨b2, hb2⟩ : ∃ b, wAll f lo hi Lf = b := ⟨_, rfl⟩
    rw [hb2] at w2 ⊢
    obtain ⟨Rt, hRt⟩ : ∃ k, keepW (tstB d x most f) f n b2.1 b2.2 (l.drop H) = k := ⟨_, rfl⟩
    rw [hRt]
    have hRm := keepW_mem (tstB d x most f) f n b2.1 b2.2 (l.drop H)
    rw [hRt] at hRm
    have hlL : Lf.length ≤ H := by omega
    have hlR : Rt.length ≤ l.length - H := by omega
    have hcL : ∀ c ∈ Lf, f ≤ c.f ∧ c.f ≤ c.t ∧ c.t < f + N := fun c hc' => hct c (hLm.1 c hc')
    have hpn : ∀ ρ W L nx, Hp ⟨w, 6, fun n => if n = 0 then some B else if n = 1 then A1 else if n = 2 then A2 else if n = 3 then A3 else if n = 4 then X1 else X2, []⟩ ρ L nx W → ∃ b off, A3 = some ⟨b, off, none⟩ ∧ ρ 3 = some ⟨b, off, none⟩ := fun ρ W L nx hp => by
      obtain ⟨b, off, hb⟩ := hA3 (by omega)
      exact ⟨b, off, hb, (hp.pin.2 3 (by show 3 < 6; omega)).trans hb⟩
    ((conv=>whnf);(repeat(refine And.intro ?_ ?_;(focus((first|omega|exact⟨rfl,True.intro⟩|exact⟨rfl,rfl,True.intro⟩|rfl|(simp only[List.length_set];first|omega|(refine⟨?_,?_⟩<;>omega)|(refine⟨?_,?_,?_⟩<;>omega))|(intro hg;(try simp only[bB]at hg);first|omega|(refine⟨?_,?_⟩<;>omega)|(refine⟨?_,?_,?_⟩<;>first|omega|(show _<_;(try simp only[List.length_set]);omega)|exact leT rfl))|(refine⟨?_,?_⟩<;>omega)|(refine⟨?_,?_,?_⟩<;>first|omega|(show _<_;(try simp only[List.length_set]);omega)|exact leT rfl)|(simp only[show rI.d=(0:Int)from rfl];omega));done));(conv=>whnf))))
    rw [hdv]
    ((conv=>whnf);(repeat(refine And.intro ?_ ?_;(focus((first|omega|exact⟨rfl,True.intro⟩|exact⟨rfl,rfl,True.intro⟩|rfl|(simp only[List.length_set];first|omega|(refine⟨?_,?_⟩<;>omega)|(refine⟨?_,?_,?_⟩<;>omega))|(intro hg;(try simp only[bB]at hg);first|omega|(refine⟨?_,?_⟩<;>omega)|(refine⟨?_,?_,?_⟩<;>first|omega|(show _<_;(try simp only[List.length_set]);omega)|exact leT rfl))|(refine⟨?_,?_⟩<;>omega)|(refine⟨?_,?_,?_⟩<;>first|omega|(show _<_;(try simp only[List.length_set]);omega)|exact leT rfl)|(simp only[show rI.d=(0:Int)from rfl];omega));done));(conv=>whnf))))
    (refine EvDraw.one (.q 0 (.q 1 (.q 2 (.q 3 (.q 4 (.q 6 (.q 7 (.q 8 (.q 9 (.n 5 true (.n 10 true (.q 11 (.z)) (.e)) (.e))))))))))) (by kernel_rfl) ?_)
    ((conv=>whnf);(repeat(refine And.intro ?_ ?_;(focus((first|omega|exact⟨rfl,True.intro⟩|exact⟨rfl,rfl,True.intro⟩|rfl|(simp only[List.length_set];first|omega|(refine⟨?_,?_⟩<;>omega)|(refine⟨?_,?_,?_⟩<;>omega))|(intro hg;(try simp only[bB]at hg);first|omega|(refine⟨?_,?_⟩<;>omega)|(refine⟨?_,?_,?_⟩<;>first|omega|(show _<_;(try simp only[List.length_set]);omega)|exact leT rfl))|(refine⟨?_,?_⟩<;>omega)|(refine⟨?_,?_,?_⟩<;>first|omega|(show _<_;(try simp only[List.length_set]);omega)|exact leT rfl)|(simp only[show rI.d=(0:Int)from rfl];omega));done));(conv=>whnf))))
    refine EvCall.two (ty := 3) (xs := b1.1) (ys := b1.2) (envS f) (envS_den f) (envS_lt f) Try.call69 (fun ρ W hp => by
      rw [← hb1]
      have hpt := hp.part (R := rC) (n := 3) (xs := l) (c := c3) rfl (by decide) e5 e6 H l.length (by omega) (Nat.le_refl _)
      rw [List.take_of_length_le (by omega)] at hpt
      exact with_s f lo hi (l.drop H) _ _ _ _ _ _ _ W (hp.rowsIn (R := rI) (n := 1) (c := c1) rfl (by decide) e1 e2 1) (hp.rowsIn (R := rI) (n := 2) (c := c2) rfl (by decide) e3 e4 1) hpt hf (by omega) (by omega) (by rw [h1]; exact hcd)) (fun p1 p2 q1 q2 q3 q4 => ?_)
    ((conv=>whnf);(repeat(refine And.intro ?_ ?_;(focus((first|omega|exact⟨rfl,True.intro⟩|exact⟨rfl,rfl,True.intro⟩|rfl|(simp only[List.length_set];first|omega|(refine⟨?_,?_⟩<;>omega)|(refine⟨?_,?_,?_⟩<;>omega))|(intro hg;(try simp only[bB]at hg);first|omega|(refine⟨?_,?_⟩<;>omega)|(refine⟨?_,?_,?_⟩<;>first|omega|(show _<_;(try simp only[List.length_set]);omega)|exact leT rfl))|(refine⟨?_,?_⟩<;>omega)|(refine⟨?_,?_,?_⟩<;>first|omega|(show _<_;(try simp only[List.length_set]);omega)|exact leT rfl)|(simp only[show rI.d=(0:Int)from rfl];omega));done));(conv=>whnf))))
    refine EvCall.sub (R := rC) (ty := 62) (l := l.take H) (xs := Lf) 3 0 rfl Try.call51 (fun ρ W hp => ⟨ρ 3, (map_add0 _ _).symm, by
      rw [← hLf]
      have hcc := hp.rowsIn (R := rC) (n := 3) (xs := l) (c := c3) rfl (by decide) e5 e6 4
      simp only [den] at hcc
      have hcc := hcc.cut H H (by omega) (by omega) (by omega)
      have := ih (l.take H) b1.1 b1.2 nm LA lb lc _ (ρ 4) (ρ 5) _ _ (ρ 3) _ _ _ _ x1 x2 _ _ H W (by omega) (by omega) (by omega) (by omega) hct (hD.below hp.bel) (hp.rowsIn (R := rI) (n := 4) (c := x1) rfl (by decide) e7 e8 1) (hp.rowsIn (R := rI) (n := 5) (c := x2) rfl (by decide) e9 e10 1)
        (hp.rowsIn (R := rI) (n := 7) (c := p1) rfl (by decide) q1 q2 1) (hp.rowsIn (R := rI) (n := 8) (c := p2) rfl (by decide) q3 q4 1) (by rw [tl1]; exact hcc) (hp.ptr (n := 0) rfl (by simp [thS]))
      rw [tl1] at this
      exact this⟩) (fun ca oa r1 r2 r3 => ?_) (fun j ca r1 r2 r3 r4 => ?_)
    · have hh := hlL
      ((conv=>whnf);(repeat(refine And.intro ?_ ?_;(focus((first|omega|exact⟨rfl,True.intro⟩|exact⟨rfl,rfl,True.intro⟩|rfl|(simp only[List.length_set];first|omega|(refine⟨?_,?_⟩<;>omega)|(refine⟨?_,?_,?_⟩<;>omega))|(intro hg;(try simp only[bB]at hg);first|omega|(refine⟨?_,?_⟩<;>omega)|(refine⟨?_,?_,?_⟩<;>first|omega|(show _<_;(try simp only[List.length_set]);omega)|exact leT rfl))|(refine⟨?_,?_⟩<;>omega)|(refine⟨?_,?_,?_⟩<;>first|omega|(show _<_;(try simp only[List.length_set]);omega)|exact leT rfl)|(simp only[show rI.d=(0:Int)from rfl];omega));done));(conv=>whnf))))
      (refine EvDraw.one (.q 0 (.q 1 (.q 2 (.q 4 (.q 5 (.q 6 (.n 3 true (.n 7 true (.q 8 (.z)) (.e)) (.e)))))))) (by kernel_rfl) ?_)
      ((conv=>whnf);(repeat(refine And.intro ?_ ?_;(focus((first|omega|exact⟨rfl,True.intro⟩|exact⟨rfl,rfl,True.intro⟩|rfl|(simp only[List.length_set];first|omega|(refine⟨?_,?_⟩<;>omega)|(refine⟨?_,?_,?_⟩<;>omega))|(intro hg;(try simp only[bB]at hg);first|omega|(refine⟨?_,?_⟩<;>omega)|(refine⟨?_,?_,?_⟩<;>first|omega|(show _<_;(try simp only[List.length_set]);omega)|exact leT rfl))|(refine⟨?_,?_⟩<;>omega)|(refine⟨?_,?_,?_⟩<;>first|omega|(show _<_;(try simp only[List.length_set]);omega)|exact leT rfl)|(simp only[show rI.d=(0:Int)from rfl];omega));done));(conv=>whnf))))
      refine EvCall.two (ty := 3) (xs := b2.1) (ys := b2.2) (envS f) (envS_den f) (envS_lt f) Try.call69 (fun ρ W hp => by
        have hlr := hp.rowsIn (R := rC) (n := 9) (xs := Lf) (c := ca) rfl (by decide) r1 (by omega) 4
        rw [← hb2]
        exact with_s f lo hi Lf _ _ _ _ _ _ _ W (hp.rowsIn (R := rI) (n := 1) (c := c1) rfl (by decide) e1 e2 1) (hp.rowsIn (R := rI) (n := 2) (c := c2) rfl (by decide) e3 e4 1) hlr hf (by omega) (by omega) (by rw [h1]; exact hcL)) (fun s1 s2 t1 t2 t3 t4 => ?_)
      ((conv=>whnf);(repeat(refine And.intro ?_ ?_;(focus((first|omega|exact⟨rfl,True.intro⟩|exact⟨rfl,rfl,True.intro⟩|rfl|(simp only[List.length_set];first|omega|(refine⟨?_,?_⟩<;>omega)|(refine⟨?_,?_,?_⟩<;>omega))|(intro hg;(try simp only[bB]at hg);first|omega|(refine⟨?_,?_⟩<;>omega)|(refine⟨?_,?_,?_⟩<;>first|omega|(show _<_;(try simp only[List.length_set]);omega)|exact leT rfl))|(refine⟨?_,?_⟩<;>omega)|(refine⟨?_,?_,?_⟩<;>first|omega|(show _<_;(try simp only[List.length_set]);omega)|exact leT rfl)|(simp only[show rI.d=(0:Int)from rfl];omega));done));(conv=>whnf))))
      refine EvCall.sub (R := rC) (ty := 62) (l := l.drop H) (xs := Rt) 3 (sOff 0 c3 (Int.toNat (H : Int))) rfl Try.call51 (fun ρ W hp => ⟨_, rfl, by
        rw [← hRt]
        have hpt := hp.part (R := rC) (n := 3) (xs := l) (c := c3) rfl (by decide) e5 e6 H l.length (by omega) (Nat.le_refl _)
        rw [List.take_of_length_le (by omega)] at hpt
        have := ih (l.drop H) b2.1 b2.2 nm LA lb lc _ (ρ 4) (ρ 5) _ _ _ _ _ _ _ x1 x2 _ _ _ W (by omega) (by omega) (by omega) (by omega) hcd (hD.below hp.bel) (hp.rowsIn (R := rI) (n := 4) (c := x1) rfl (by decide) e7 e8 1) (hp.rowsIn (R := rI) (n := 5) (c := x2) rfl (by decide) e9 e10 1)
          (hp.rowsIn (R := rI) (n := 10) (c := s1) rfl (by decide) t1 t2 1) (hp.rowsIn (R := rI) (n := 11) (c := s2) rfl (by decide) t3 t4 1) (by rw [dl1]; exact hpt) (hp.ptr (n := 0) rfl (by simp [thS]))
        rw [dl1] at this
        exact this⟩) (fun cb ob u1 u2 u3 => ?_) (fun j2 cb u1 u2 u3 u4 => ?_)
      · ((conv=>whnf);(repeat(refine And.intro ?_ ?_;(focus((first|omega|exact⟨rfl,True.intro⟩|exact⟨rfl,rfl,True.intro⟩|rfl|(simp only[List.length_set];first|omega|(refine⟨?_,?_⟩<;>omega)|(refine⟨?_,?_,?_⟩<;>omega))|(intro hg;(try simp only[bB]at hg);first|omega|(refine⟨?_,?_⟩<;>omega)|(refine⟨?_,?_,?_⟩<;>first|omega|(show _<_;(try simp only[List.length_set]);omega)|exact leT rfl))|(refine⟨?_,?_⟩<;>omega)|(refine⟨?_,?_,?_⟩<;>first|omega|(show _<_;(try simp only[List.length_set]);omega)|exact leT rfl)|(simp only[show rI.d=(0:Int)from rfl];omega));done));(conv=>whnf))))
        refine EvBi.appendFull (R := rC) tyok29 rfl tyok62 rfl (by decide) rfl rfl Lf Rt (fun ρ W hp => ⟨hp.rowsIn (R := rC) (n := 9) (xs := Lf) (c := Lf.length) rfl (by decide) (Nat.le_refl _) (by omega) 4, _, rfl⟩) (fun ρ W hp => hp.rowsIn (R := rC) (n := 12) (xs := Rt) (c := cb) rfl (by decide) u1 (by omega) 4) (by show _ * 32 ≤ _; omega) (by omega) (fun hy => ?_) (fun hy cap' v1 v2 => ?_)
        · ((conv=>whnf);(repeat(refine And.intro ?_ ?_;(focus((first|omega|exact⟨rfl,True.intro⟩|exact⟨rfl,rfl,True.intro⟩|rfl|(simp only[List.length_set];first|omega|(refine⟨?_,?_⟩<;>omega)|(refine⟨?_,?_,?_⟩<;>omega))|(intro hg;(try simp only[bB]at hg);first|omega|(refine⟨?_,?_⟩<;>omega)|(refine⟨?_,?_,?_⟩<;>first|omega|(show _<_;(try simp only[List.length_set]);omega)|exact leT rfl))|(refine⟨?_,?_⟩<;>omega)|(refine⟨?_,?_,?_⟩<;>first|omega|(show _<_;(try simp only[List.length_set]);omega)|exact leT rfl)|(simp only[show rI.d=(0:Int)from rfl];omega));done));(conv=>whnf))))
          exact EvRet.sub_own (n := 9) (cap := Lf.length) (ocap := oa) (R := rC) (by rw [hy]; simp) (by rw [hy]; simp) (by omega) (by rw [hy]; simp) rfl
        · ((conv=>whnf);(repeat(refine And.intro ?_ ?_;(focus((first|omega|exact⟨rfl,True.intro⟩|exact⟨rfl,rfl,True.intro⟩|rfl|(simp only[List.length_set];first|omega|(refine⟨?_,?_⟩<;>omega)|(refine⟨?_,?_,?_⟩<;>omega))|(intro hg;(try simp only[bB]at hg);first|omega|(refine⟨?_,?_⟩<;>omega)|(refine⟨?_,?_,?_⟩<;>first|omega|(show _<_;(try simp only[List.length_set]);omega)|exact leT rfl))|(refine⟨?_,?_⟩<;>omega)|(refine⟨?_,?_,?_⟩<;>first|omega|(show _<_;(try simp only[List.length_set]);omega)|exact leT rfl)|(simp only[show rI.d=(0:Int)from rfl];omega));done));(conv=>whnf))))
          exact EvRet.sub_own (R := rC) (by simp) (by simpa using v1) (Nat.le_refl _) rfl rfl
      · have hR1 : Rt = [l.getD (sOff 0 c3 (Int.toNat (H : Int)) + j2) rC.d] := by
          rw [u2, hso]
          simp [List.getD_eq_getElem?_getD]
        have hjR : sOff 0 c3 (Int.toNat (H : Int)) + j2 < l.length := by rw [hso]; omega
        ((conv=>whnf);(repeat(refine And.intro ?_ ?_;(focus((first|omega|exact⟨rfl,True.intro⟩|exact⟨rfl,rfl,True.intro⟩|rfl|(simp only[List.length_set];first|omega|(refine⟨?_,?_⟩<;>omega)|(refine⟨?_,?_,?_⟩<;>omega))|(intro hg;(try simp only[bB]at hg);first|omega|(refine⟨?_,?_⟩<;>omega)|(refine⟨?_,?_,?_⟩<;>first|omega|(show _<_;(try simp only[List.length_set]);omega)|exact leT rfl))|(refine⟨?_,?_⟩<;>omega)|(refine⟨?_,?_,?_⟩<;>first|omega|(show _<_;(try simp only[List.length_set]);omega)|exact leT rfl)|(simp only[show rI.d=(0:Int)from rfl];omega));done));(conv=>whnf))))
        refine EvBi.appendFull (R := rC) tyok29 rfl tyok62 rfl (by decide) rfl rfl Lf Rt (fun ρ W hp => ⟨hp.rowsIn (R := rC) (n := 9) (xs := Lf) (c := Lf.length) rfl (by decide) (Nat.le_refl _) (by omega) 4, _, rfl⟩) (fun ρ W hp => hR1 ▸ (hp.one (R := rC) (n := 3) (xs := l) (eo := sOff 0 c3 (Int.toNat (H : Int)) + j2) (c := cb) rfl (by decide) rfl hjR u3 u4).2) (by show _ * 32 ≤ _; omega) (by omega) (fun hy => ?_) (fun hy cap' v1 v2 => ?_)
        · rw [hR1] at hy
          cases hy
        · ((conv=>whnf);(repeat(refine And.intro ?_ ?_;(focus((first|omega|exact⟨rfl,True.intro⟩|exact⟨rfl,rfl,True.intro⟩|rfl|(simp only[List.length_set];first|omega|(refine⟨?_,?_⟩<;>omega)|(refine⟨?_,?_,?_⟩<;>omega))|(intro hg;(try simp only[bB]at hg);first|omega|(refine⟨?_,?_⟩<;>omega)|(refine⟨?_,?_,?_⟩<;>first|omega|(show _<_;(try simp only[List.length_set]);omega)|exact leT rfl))|(refine⟨?_,?_⟩<;>omega)|(refine⟨?_,?_,?_⟩<;>first|omega|(show _<_;(try simp only[List.length_set]);omega)|exact leT rfl)|(simp only[show rI.d=(0:Int)from rfl];omega));done));(conv=>whnf))))
          exact EvRet.sub_own (R := rC) (by simp) (by simpa using v1) (Nat.le_refl _) rfl rfl
    · have hLf1 : Lf = [l.getD (0 + j) rC.d] := by
        rw [r2]
        have : j < H := by omega
        simp [List.getD_eq_getElem?_getD, this]
      have hj : 0 + j < l.length := by omega
      have hL1 : Lf.length = 1 := by rw [hLf1]; rfl
      ((conv=>whnf);(repeat(refine And.intro ?_ ?_;(focus((first|omega|exact⟨rfl,True.intro⟩|exact⟨rfl,rfl,True.intro⟩|rfl|(simp only[List.length_set];first|omega|(refine⟨?_,?_⟩<;>omega)|(refine⟨?_,?_,?_⟩<;>omega))|(intro hg;(try simp only[bB]at hg);first|omega|(refine⟨?_,?_⟩<;>omega)|(refine⟨?_,?_,?_⟩<;>first|omega|(show _<_;(try simp only[List.length_set]);omega)|exact leT rfl))|(refine⟨?_,?_⟩<;>omega)|(refine⟨?_,?_,?_⟩<;>first|omega|(show _<_;(try simp only[List.length_set]);omega)|exact leT rfl)|(simp only[show rI.d=(0:Int)from rfl];omega));done));(conv=>whnf))))
      (refine EvDraw.one (.q 0 (.q 1 (.q 2 (.q 4 (.q 5 (.q 6 (.n 3 true (.n 7 true (.q 8 (.z)) (.e)) (.e)))))))) (by kernel_rfl) ?_)
      ((conv=>whnf);(repeat(refine And.intro ?_ ?_;(focus((first|omega|exact⟨rfl,True.intro⟩|exact⟨rfl,rfl,True.intro⟩|rfl|(simp only[List.length_set];first|omega|(refine⟨?_,?_⟩<;>omega)|(refine⟨?_,?_,?_⟩<;>omega))|(intro hg;(try simp only[bB]at hg);first|omega|(refine⟨?_,?_⟩<;>omega)|(refine⟨?_,?_,?_⟩<;>first|omega|(show _<_;(try simp only[List.length_set]);omega)|exact leT rfl))|(refine⟨?_,?_⟩<;>omega)|(refine⟨?_,?_,?_⟩<;>first|omega|(show _<_;(try simp only[List.length_set]);omega)|exact leT rfl)|(simp only[show rI.d=(0:Int)from rfl];omega));done));(conv=>whnf))))
      refine EvCall.two (ty := 3) (xs := b2.1) (ys := b2.2) (envS f) (envS_den f) (envS_lt f) Try.call69 (fun ρ W hp => by
        have hlr := hLf1 ▸ (hp.one (R := rC) (n := 3) (xs := l) (eo := 0 + j) (c := ca) rfl (by decide) rfl hj r3 r4).2
        rw [← hb2]
        exact with_s f lo hi Lf _ _ _ _ _ _ _ W (hp.rowsIn (R := rI) (n := 1) (c := c1) rfl (by decide) e1 e2 1) (hp.rowsIn (R := rI) (n := 2) (c := c2) rfl (by decide) e3 e4 1) hlr hf (by omega) (by omega) (by rw [h1]; exact hcL)) (fun s1 s2 t1 t2 t3 t4 => ?_)
      ((conv=>whnf);(repeat(refine And.intro ?_ ?_;(focus((first|omega|exact⟨rfl,True.intro⟩|exact⟨rfl,rfl,True.intro⟩|rfl|(simp only[List.length_set];first|omega|(refine⟨?_,?_⟩<;>omega)|(refine⟨?_,?_,?_⟩<;>omega))|(intro hg;(try simp only[bB]at hg);first|omega|(refine⟨?_,?_⟩<;>omega)|(refine⟨?_,?_,?_⟩<;>first|omega|(show _<_;(try simp only[List.length_set]);omega)|exact leT rfl))|(refine⟨?_,?_⟩<;>omega)|(refine⟨?_,?_,?_⟩<;>first|omega|(show _<_;(try simp only[List.length_set]);omega)|exact leT rfl)|(simp only[show rI.d=(0:Int)from rfl];omega));done));(conv=>whnf))))
      refine EvCall.sub (R := rC) (ty := 62) (l := l.drop H) (xs := Rt) 3 (sOff 0 c3 (Int.toNat (H : Int))) rfl Try.call51 (fun ρ W hp => ⟨_, rfl, by
        rw [← hRt]
        have hpt := hp.part (R := rC) (n := 3) (xs := l) (c := c3) rfl (by decide) e5 e6 H l.length (by omega) (Nat.le_refl _)
        rw [List.take_of_length_le (by omega)] at hpt
        have := ih (l.drop H) b2.1 b2.2 nm LA lb lc _ (ρ 4) (ρ 5) _ _ _ _ _ _ _ x1 x2 _ _ _ W (by omega) (by omega) (by omega) (by omega) hcd (hD.below hp.bel) (hp.rowsIn (R := rI) (n := 4) (c := x1) rfl (by decide) e7 e8 1) (hp.rowsIn (R := rI) (n := 5) (c := x2) rfl (by decide) e9 e10 1)
          (hp.rowsIn (R := rI) (n := 9) (c := s1) rfl (by decide) t1 t2 1) (hp.rowsIn (R := rI) (n := 10) (c := s2) rfl (by decide) t3 t4 1) (by rw [dl1]; exact hpt) (hp.ptr (n := 0) rfl (by simp [thS]))
        rw [dl1] at this
        exact this⟩) (fun cb ob u1 u2 u3 => ?_) (fun j2 cb u1 u2 u3 u4 => ?_)
      · ((conv=>whnf);(repeat(refine And.intro ?_ ?_;(focus((first|omega|exact⟨rfl,True.intro⟩|exact⟨rfl,rfl,True.intro⟩|rfl|(simp only[List.length_set];first|omega|(refine⟨?_,?_⟩<;>omega)|(refine⟨?_,?_,?_⟩<;>omega))|(intro hg;(try simp only[bB]at hg);first|omega|(refine⟨?_,?_⟩<;>omega)|(refine⟨?_,?_,?_⟩<;>first|omega|(show _<_;(try simp only[List.length_set]);omega)|exact leT rfl))|(refine⟨?_,?_⟩<;>omega)|(refine⟨?_,?_,?_⟩<;>first|omega|(show _<_;(try simp only[List.length_set]);omega)|exact leT rfl)|(simp only[show rI.d=(0:Int)from rfl];omega));done));(conv=>whnf))))
        refine EvBi.appendFull (R := rC) tyok29 rfl tyok62 rfl (by decide) rfl rfl Lf Rt (fun ρ W hp => ⟨hLf1 ▸ (hp.one (R := rC) (n := 3) (xs := l) (eo := 0 + j) (c := 1) rfl (by decide) rfl hj (by omega) (by omega)).2, by rw [hL1]; exact ⟨_, rfl⟩⟩) (fun ρ W hp => hp.rowsIn (R := rC) (n := 11) (xs := Rt) (c := cb) rfl (by decide) u1 (by omega) 4) (by show _ * 32 ≤ _; omega) (by omega) (fun hy => ?_) (fun hy cap' v1 v2 => ?_)
        · ((conv=>whnf);(repeat(refine And.intro ?_ ?_;(focus((first|omega|exact⟨rfl,True.intro⟩|exact⟨rfl,rfl,True.intro⟩|rfl|(simp only[List.length_set];first|omega|(refine⟨?_,?_⟩<;>omega)|(refine⟨?_,?_,?_⟩<;>omega))|(intro hg;(try simp only[bB]at hg);first|omega|(refine⟨?_,?_⟩<;>omega)|(refine⟨?_,?_,?_⟩<;>first|omega|(show _<_;(try simp only[List.length_set]);omega)|exact leT rfl))|(refine⟨?_,?_⟩<;>omega)|(refine⟨?_,?_,?_⟩<;>first|omega|(show _<_;(try simp only[List.length_set]);omega)|exact leT rfl)|(simp only[show rI.d=(0:Int)from rfl];omega));done));(conv=>whnf))))
          exact EvRet.sub_one (R := rC) (n := 3) (xs := l) (eo := 0 + j) rfl (by decide) hj hj (by rw [hy, hLf1]; simp) (by omega) (by omega) (fun ρ W hp => hpn ρ W _ _ hp) rfl
        · ((conv=>whnf);(repeat(refine And.intro ?_ ?_;(focus((first|omega|exact⟨rfl,True.intro⟩|exact⟨rfl,rfl,True.intro⟩|rfl|(simp only[List.length_set];first|omega|(refine⟨?_,?_⟩<;>omega)|(refine⟨?_,?_,?_⟩<;>omega))|(intro hg;(try simp only[bB]at hg);first|omega|(refine⟨?_,?_⟩<;>omega)|(refine⟨?_,?_,?_⟩<;>first|omega|(show _<_;(try simp only[List.length_set]);omega)|exact leT rfl))|(refine⟨?_,?_⟩<;>omega)|(refine⟨?_,?_,?_⟩<;>first|omega|(show _<_;(try simp only[List.length_set]);omega)|exact leT rfl)|(simp only[show rI.d=(0:Int)from rfl];omega));done));(conv=>whnf))))
          exact EvRet.sub_own (R := rC) (by simp) (by simpa using v1) (Nat.le_refl _) rfl rfl
      · have hR1 : Rt = [l.getD (sOff 0 c3 (Int.toNat (H : Int)) + j2) rC.d] := by
          rw [u2, hso]
          simp [List.getD_eq_getElem?_getD]
        have hjR : sOff 0 c3 (Int.toNat (H : Int)) + j2 < l.length := by rw [hso]; omega
        ((conv=>whnf);(repeat(refine And.intro ?_ ?_;(focus((first|omega|exact⟨rfl,True.intro⟩|exact⟨rfl,rfl,True.intro⟩|rfl|(simp only[List.length_set];first|omega|(refine⟨?_,?_⟩<;>omega)|(refine⟨?_,?_,?_⟩<;>omega))|(intro hg;(try simp only[bB]at hg);first|omega|(refine⟨?_,?_⟩<;>omega)|(refine⟨?_,?_,?_⟩<;>first|omega|(show _<_;(try simp only[List.length_set]);omega)|exact leT rfl))|(refine⟨?_,?_⟩<;>omega)|(refine⟨?_,?_,?_⟩<;>first|omega|(show _<_;(try simp only[List.length_set]);omega)|exact leT rfl)|(simp only[show rI.d=(0:Int)from rfl];omega));done));(conv=>whnf))))
        refine EvBi.appendFull (R := rC) tyok29 rfl tyok62 rfl (by decide) rfl rfl Lf Rt (fun ρ W hp => ⟨hLf1 ▸ (hp.one (R := rC) (n := 3) (xs := l) (eo := 0 + j) (c := 1) rfl (by decide) rfl hj (by omega) (by omega)).2, by rw [hL1]; exact ⟨_, rfl⟩⟩) (fun ρ W hp => hR1 ▸ (hp.one (R := rC) (n := 3) (xs := l) (eo := sOff 0 c3 (Int.toNat (H : Int)) + j2) (c := cb) rfl (by decide) rfl hjR u3 u4).2) (by show _ * 32 ≤ _; omega) (by omega) (fun hy => ?_) (fun hy cap' v1 v2 => ?_)
        · rw [hR1] at hy
          cases hy
        · ((conv=>whnf);(repeat(refine And.intro ?_ ?_;(focus((first|omega|exact⟨rfl,True.intro⟩|exact⟨rfl,rfl,True.intro⟩|rfl|(simp only[List.length_set];first|omega|(refine⟨?_,?_⟩<;>omega)|(refine⟨?_,?_,?_⟩<;>omega))|(intro hg;(try simp only[bB]at hg);first|omega|(refine⟨?_,?_⟩<;>omega)|(refine⟨?_,?_,?_⟩<;>first|omega|(show _<_;(try simp only[List.length_set]);omega)|exact leT rfl))|(refine⟨?_,?_⟩<;>omega)|(refine⟨?_,?_,?_⟩<;>first|omega|(show _<_;(try simp only[List.length_set]);omega)|exact leT rfl)|(simp only[show rI.d=(0:Int)from rfl];omega));done));(conv=>whnf))))
          exact EvRet.sub_own (R := rC) (by simp) (by simpa using v1) (Nat.le_refl _) rfl rfl
end Go.Proofs.Ytpnngbfmmjjnaaa
