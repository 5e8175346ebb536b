
/- Lossy steps: Cost, finish, below, walked. -/
import Derived.Test.YtpnngbfmmjjnaaaIa
import Derived.Test.YtpnngbfmmjjnaaaEn
import Derived.Test.YtpnngbfmmjjnaaaLi
import Derived.Test.YtpnngbfmmjjnaaaSyG
namespace Go.Proofs.Ytpnngbfmmjjnaaa
open Go.RowKit
set_option linter.unusedVariables false
set_option linter.unusedSimpArgs false

/-! rows and two numbers handed back -/
def RetR3 {α : Type} (R : RowS α) (ty : TypeId) (w : World) (xs : List α) (k z : Int) (e : Ending) (w' : World) : Prop :=
  ∃ A cap, e = .returned (.tuple #[.slice A xs.length cap, .int .i64 k, .int .i64 z]) ∧ Below w.heap.size w w' ∧ xs.length ≤ cap ∧ OwnOk w.heap.size (fun _ => A) ⟨0, true, ty, R.cols.length, cap, .rows α R xs⟩ w'
section
variable {P : Program} {w : Ref} {f : FuncId} {args : List SV} {L : List Ob} {nx : Nat}
theorem EvCall.rows3 {kp : Bool} {k : SV → List Ob → Nat → Prop} {α : Type} {R : RowS α} {ty : TypeId} {xs : List α} {c z : Int} (ent : ∀ args W, (callFunc f args).run P W = .ok (.enter f args) W)
    (h : ∀ ρ W, Hp w ρ L nx W → Con P f (denL ρ args).toArray W (RetR3 R ty W xs c z)) (hk : ∀ cap, xs.length ≤ cap → cap ≤ 9223372036854775807 → k (.t [.s nx R.cols.length xs.length cap, .v (.int .i64 c), .v (.int .i64 z)]) (⟨nx, true, ty, R.cols.length, cap, .rows α R xs⟩ :: L) (nx + 1)) : EvCall kp P w f args L nx k := by
  refine ⟨ent, fun ρ W hp _ => (h ρ W hp).out.mono fun e W' he => ?_⟩
  obtain ⟨A, cap, he, hb, hc, hok⟩ := he
  have hcm : cap ≤ 9223372036854775807 := by
    rcases hok with ⟨_, _, hx⟩ | ⟨_, _, _, _, _, hx, _⟩
    · simp only at hx; omega
    · simpa [maxLen] using hx
  refine ⟨_, he, fun _ => hb, upd ρ nx A, .t [.s nx R.cols.length xs.length cap, .v (.int .i64 c), .v (.int .i64 z)], _, nx + 1, by simp [den, denL, upd_same], agree_upd ρ nx A, by omega, by simp [SV.lt, ltL, blt_iff], ?_, hk cap hc hcm⟩
  exact hp.new hb _ A rfl rfl rfl (OwnOk.rename (o := ⟨0, true, ty, R.cols.length, cap, .rows α R xs⟩) (n := nx) rfl (upd_same _ _ _) hok)
theorem EvRet.rows3 {α : Type} {R : RowS α} {ty : TypeId} {xs ys : List α} {c c' z z' : Int} {n len cap : Nat} (hl : len = ys.length) (hc : ys.length ≤ cap) (hxy : xs = ys) (hcc : c' = c) (hz : z' = z) (hn : fnd L n = some ⟨n, true, ty, R.cols.length, cap, .rows α R xs⟩) : EvRet w (RetR3 R ty w.toWorld ys c z) (.t [.s n R.cols.length len cap, .v (.int .i64 c'), .v (.int .i64 z')]) L nx := by
  subst hxy
  subst hl
  subst hz
  subst hcc
  obtain ⟨_, l1, l2, hL, _⟩ := fnd_split hn
  refine ⟨fun ρ W hp _ => ⟨ρ n, cap, by simp [den, denL], hp.bel, hc, ?_⟩⟩
  have h1 := hp.obj _ (show (⟨n, true, ty, R.cols.length, cap, .rows α R xs⟩ : Ob) ∈ L by rw [hL]; simp)
  simp only [ObOk, if_true] at h1
  exact OwnOk.rename (o := ⟨n, true, ty, R.cols.length, cap, .rows α R xs⟩) (n := 0) rfl rfl h1
theorem EvRet.rows3_nil {α : Type} {R : RowS α} {ty : TypeId} {ys : List α} {c c' z z' : Int} (h : ys = []) (hc : c' = c) (hz : z' = z) : EvRet w (RetR3 R ty w.toWorld ys c z) (.t [.v (.slice none 0 0), .v (.int .i64 c'), .v (.int .i64 z')]) L nx := by
  subst h
  subst hz
  subst hc
  exact ⟨fun ρ W hp _ => ⟨none, 0, rfl, hp.bel, Nat.le_refl _, .inl ⟨rfl, rfl, rfl⟩⟩⟩
end
/-! plain -/
theorem newR_ok {d : Dc} {l : List Cl} (h : (newR d l).2 = 0) : validCode d = 0 ∧ l.length ≤ 4096 ∧ (∀ c ∈ l, validB d c = true) ∧ (∀ i : Nat, i < spanN d → rLo d l (d.first + i) ≤ rHi d l (d.first + i)) ∧ newR d l = (⟨d.first, rLoL d l (spanN d), rHiL d l (spanN d)⟩, 0) := by
  have hb : (bandsR d l).2 = 0 := by
    apply Classical.byContradiction
    intro hne
    rw [newR, if_pos hne] at h
    exact hne h
  obtain ⟨hv, hn, hl⟩ := bands_ok0 hb
  have hbd := valid_bounds hv
  rcases newR_cases hv hn hl (n := spanN d) (by unfold spanN; omega) with ⟨h1, h2⟩ | ⟨h1, h2⟩
  · exact ⟨hv, hn, hl, h1, h2⟩
  · rw [h2] at h; exact absurd h (by decide)
theorem newR_len (d : Dc) (l : List Cl) : (newR d l).1.lo.length ≤ 2000000 := by
  by_cases h : (newR d l).2 = 0
  · obtain ⟨hv, _, _, _, h2⟩ := newR_ok h
    have hbd := valid_bounds hv
    rw [h2]
    show (rLoL d l (spanN d)).length ≤ _
    rw [rLoL_len]
    unfold spanN
    omega
  · by_cases hb : (bandsR d l).2 ≠ 0
    · rw [newR, if_pos hb]; simp [env0']
    · have hb0 : (bandsR d l).2 = 0 := by omega
      obtain ⟨hv, hn, hl⟩ := bands_ok0 hb0
      have hbd := valid_bounds hv
      rcases newR_cases hv hn hl (n := spanN d) (by unfold spanN; omega) with ⟨h1, h2⟩ | ⟨h1, h2⟩
      · rw [h2] at h; exact absurd rfl h
      · rw [h2]; simp [env0']
noncomputable def costR (d : Dc) (a b : List Cl) : Int × Int := if (newR d a).2 ≠ 0 then (0, (newR d a).2) else if (newR d b).2 ≠ 0 then (0, (newR d b).2) else growthR (newR d a).1 (newR d b).1
noncomputable def finR (d : Dc) (l r : List Cl) : List Cl × Int × Int := if 4096 < r.length then ([], 0, 4) else if (costR d l r).2 ≠ 0 then ([], 0, (costR d l r).2) else (sortC r, (costR d l r).1, 0)
set_option maxRecDepth 10000 in
theorem cost_s (V v1 v2 : Value) (d : Dc) (a b : List Cl) (w : World) (h : DeclIs w V d) (hI : DcI d) (h1 : RowsIn rC w v1 a) (h2 : RowsIn rC w v2 b) :
    Con Try.prog 31 #[V, v1, v2] w (Ret w (.tuple #[.int .i64 (costR d a b).1, .int .i64 (costR d a b).2])) := by
  have hD := h
  obtain ⟨nm, A, c, lb, rfl, hnm, hlab, hSh⟩ := h
  obtain ⟨A1, c1, rfl, e1, e2⟩ := h1.form
  obtain ⟨A2, c2, rfl, e3, e4⟩ := h2.form
  have hla := newR_len d a
  have hlb := newR_len d b
  refine enter tabOk mixed Try.func31 rfl Try.ntmps31 Try.results31 [.a (dcS nm (.v (.slice A lb.length c)) d), .s 0 4 a.length c1, .s 1 4 b.length c2] (fun n => if n = 0 then A1 else A2) [⟨1, false, 62, 4, c2, .rows Cl rC (b)⟩, ⟨0, false, 62, 4, c1, .rows Cl rC (a)⟩] 2 rfl rfl (.ro (.ro (hp0 _ _ _) _ rfl rfl rfl (ro_rows h1 rfl _)) _ rfl rfl rfl (ro_rows h2 rfl _)) ?_
  ((conv=>whnf);(repeat(refine And.intro ?_ ?_;(focus((first|omega|exact⟨rfl,True.intro⟩|exact⟨rfl,rfl,True.intro⟩|rfl|(simp only[List.length_set];first|omega|(refine⟨?_,?_⟩<;>omega)|(refine⟨?_,?_,?_⟩<;>omega))|(intro hg;(try simp only[bB]at hg);first|omega|(refine⟨?_,?_⟩<;>omega)|(refine⟨?_,?_,?_⟩<;>first|omega|(show _<_;(try simp only[List.length_set]);omega)|exact leT rfl))|(refine⟨?_,?_⟩<;>omega)|(refine⟨?_,?_,?_⟩<;>first|omega|(show _<_;(try simp only[List.length_set]);omega)|exact leT rfl)|(simp only[show rI.d=(0:Int)from rfl];omega));done));(conv=>whnf))))
  refine EvCall.two (ty := 3) (xs := (newR d a).1.lo) (ys := (newR d a).1.hi) (envES (newR d a).1.f (newR d a).2) (envES_den _ _) (envES_lt _ _) Try.call14 (fun ρ W hp => new_s _ _ d a W (hD.below hp.bel) hI (hp.rowsIn (R := rC) (n := 0) (c := c1) rfl (by decide) e1 e2 4)) (fun p1 p2 q1 q2 q3 q4 => ?_)
  unfold costR
  generalize newR d a = x at *
  ((conv=>whnf);(repeat(refine And.intro ?_ ?_;(focus((first|omega|exact⟨rfl,True.intro⟩|exact⟨rfl,rfl,True.intro⟩|rfl|(simp only[List.length_set];first|omega|(refine⟨?_,?_⟩<;>omega)|(refine⟨?_,?_,?_⟩<;>omega))|(intro hg;(try simp only[bB]at hg);first|omega|(refine⟨?_,?_⟩<;>omega)|(refine⟨?_,?_,?_⟩<;>first|omega|(show _<_;(try simp only[List.length_set]);omega)|exact leT rfl))|(refine⟨?_,?_⟩<;>omega)|(refine⟨?_,?_,?_⟩<;>first|omega|(show _<_;(try simp only[List.length_set]);omega)|exact leT rfl)|(simp only[show rI.d=(0:Int)from rfl];omega));done));(conv=>whnf))))
  refine EvIf.split (fun g => ?_) (fun g => ?_)
  · rw [if_pos (by simpa using g)]
    ((conv=>whnf);(repeat(refine And.intro ?_ ?_;(focus((first|omega|exact⟨rfl,True.intro⟩|exact⟨rfl,rfl,True.intro⟩|rfl|(simp only[List.length_set];first|omega|(refine⟨?_,?_⟩<;>omega)|(refine⟨?_,?_,?_⟩<;>omega))|(intro hg;(try simp only[bB]at hg);first|omega|(refine⟨?_,?_⟩<;>omega)|(refine⟨?_,?_,?_⟩<;>first|omega|(show _<_;(try simp only[List.length_set]);omega)|exact leT rfl))|(refine⟨?_,?_⟩<;>omega)|(refine⟨?_,?_,?_⟩<;>first|omega|(show _<_;(try simp only[List.length_set]);omega)|exact leT rfl)|(simp only[show rI.d=(0:Int)from rfl];omega));done));(conv=>whnf))))
    exact EvRet.ret (fun _ => rfl)
  rw [if_neg (by simpa using g)]
  ((conv=>whnf);(repeat(refine And.intro ?_ ?_;(focus((first|omega|exact⟨rfl,True.intro⟩|exact⟨rfl,rfl,True.intro⟩|rfl|(simp only[List.length_set];first|omega|(refine⟨?_,?_⟩<;>omega)|(refine⟨?_,?_,?_⟩<;>omega))|(intro hg;(try simp only[bB]at hg);first|omega|(refine⟨?_,?_⟩<;>omega)|(refine⟨?_,?_,?_⟩<;>first|omega|(show _<_;(try simp only[List.length_set]);omega)|exact leT rfl))|(refine⟨?_,?_⟩<;>omega)|(refine⟨?_,?_,?_⟩<;>first|omega|(show _<_;(try simp only[List.length_set]);omega)|exact leT rfl)|(simp only[show rI.d=(0:Int)from rfl];omega));done));(conv=>whnf))))
  refine EvCall.two (ty := 3) (xs := (newR d b).1.lo) (ys := (newR d b).1.hi) (envES (newR d b).1.f (newR d b).2) (envES_den _ _) (envES_lt _ _) Try.call14 (fun ρ W hp => new_s _ _ d b W (hD.below hp.bel) hI (hp.rowsIn (R := rC) (n := 1) (c := c2) rfl (by decide) e3 e4 4)) (fun r1 r2 s1 s2 s3 s4 => ?_)
  generalize newR d b = y at *
  ((conv=>whnf);(repeat(refine And.intro ?_ ?_;(focus((first|omega|exact⟨rfl,True.intro⟩|exact⟨rfl,rfl,True.intro⟩|rfl|(simp only[List.length_set];first|omega|(refine⟨?_,?_⟩<;>omega)|(refine⟨?_,?_,?_⟩<;>omega))|(intro hg;(try simp only[bB]at hg);first|omega|(refine⟨?_,?_⟩<;>omega)|(refine⟨?_,?_,?_⟩<;>first|omega|(show _<_;(try simp only[List.length_set]);omega)|exact leT rfl))|(refine⟨?_,?_⟩<;>omega)|(refine⟨?_,?_,?_⟩<;>first|omega|(show _<_;(try simp only[List.length_set]);omega)|exact leT rfl)|(simp only[show rI.d=(0:Int)from rfl];omega));done));(conv=>whnf))))
  refine EvIf.split (fun g2 => ?_) (fun g2 => ?_)
  · rw [if_pos (by simpa using g2)]
    ((conv=>whnf);(repeat(refine And.intro ?_ ?_;(focus((first|omega|exact⟨rfl,True.intro⟩|exact⟨rfl,rfl,True.intro⟩|rfl|(simp only[List.length_set];first|omega|(refine⟨?_,?_⟩<;>omega)|(refine⟨?_,?_,?_⟩<;>omega))|(intro hg;(try simp only[bB]at hg);first|omega|(refine⟨?_,?_⟩<;>omega)|(refine⟨?_,?_,?_⟩<;>first|omega|(show _<_;(try simp only[List.length_set]);omega)|exact leT rfl))|(refine⟨?_,?_⟩<;>omega)|(refine⟨?_,?_,?_⟩<;>first|omega|(show _<_;(try simp only[List.length_set]);omega)|exact leT rfl)|(simp only[show rI.d=(0:Int)from rfl];omega));done));(conv=>whnf))))
    exact EvRet.ret (fun _ => rfl)
  rw [if_neg (by simpa using g2)]
  ((conv=>whnf);(repeat(refine And.intro ?_ ?_;(focus((first|omega|exact⟨rfl,True.intro⟩|exact⟨rfl,rfl,True.intro⟩|rfl|(simp only[List.length_set];first|omega|(refine⟨?_,?_⟩<;>omega)|(refine⟨?_,?_,?_⟩<;>omega))|(intro hg;(try simp only[bB]at hg);first|omega|(refine⟨?_,?_⟩<;>omega)|(refine⟨?_,?_,?_⟩<;>first|omega|(show _<_;(try simp only[List.length_set]);omega)|exact leT rfl))|(refine⟨?_,?_⟩<;>omega)|(refine⟨?_,?_,?_⟩<;>first|omega|(show _<_;(try simp only[List.length_set]);omega)|exact leT rfl)|(simp only[show rI.d=(0:Int)from rfl];omega));done));(conv=>whnf))))
  refine EvCall.plain Try.call23 (.t [.v (.int .i64 (growthR x.1 y.1).1), .v (.int .i64 (growthR x.1 y.1).2)]) rfl (fun ρ W hp => growth_s x.1 y.1 _ _ _ _ _ _ _ _ _ _ _ _ W (hp.rowsIn (R := rI) (n := 3) (c := p1) rfl (by decide) q1 q2 1) (hp.rowsIn (R := rI) (n := 4) (c := p2) rfl (by decide) q3 q4 1) (hp.rowsIn (R := rI) (n := 6) (c := r1) rfl (by decide) s1 s2 1) (hp.rowsIn (R := rI) (n := 7) (c := r2) rfl (by decide) s3 s4 1) hla) ?_
  ((conv=>whnf);(repeat(refine And.intro ?_ ?_;(focus((first|omega|exact⟨rfl,True.intro⟩|exact⟨rfl,rfl,True.intro⟩|rfl|(simp only[List.length_set];first|omega|(refine⟨?_,?_⟩<;>omega)|(refine⟨?_,?_,?_⟩<;>omega))|(intro hg;(try simp only[bB]at hg);first|omega|(refine⟨?_,?_⟩<;>omega)|(refine⟨?_,?_,?_⟩<;>first|omega|(show _<_;(try simp only[List.length_set]);omega)|exact leT rfl))|(refine⟨?_,?_⟩<;>omega)|(refine⟨?_,?_,?_⟩<;>first|omega|(show _<_;(try simp only[List.length_set]);omega)|exact leT rfl)|(simp only[show rI.d=(0:Int)from rfl];omega));done));(conv=>whnf))))
  exact EvRet.ret (fun _ => rfl)
set_option maxRecDepth 10000 in
theorem finish_s (V v1 v2 : Value) (d : Dc) (l r : List Cl) (w : World) (h : DeclIs w V d) (hI : DcI d) (h1 : RowsIn rC w v1 l) (h2 : RowsIn rC w v2 r) (hrk : SortOk r) :
    Con Try.prog 49 #[V, v1, v2] w (RetR3 rC 62 w (finR d l r).1 (finR d l r).2.1 (finR d l r).2.2) := by
  have hD := h
  obtain ⟨nm, A, c, lb, rfl, hnm, hlab, hSh⟩ := h
  obtain ⟨A1, c1, rfl, e1, e2⟩ := h1.form
  obtain ⟨A2, c2, rfl, e3, e4⟩ := h2.form
  have hr := sortOk_len hrk
  have hu : finR d l r = if (costR d l r).2 ≠ 0 then ([], 0, (costR d l r).2) else (sortC r, (costR d l r).1, 0) := if_neg (by omega)
  rw [hu]
  refine enter tabOk mixed Try.func49 rfl Try.ntmps49 Try.results49 [.a (dcS nm (.v (.slice A lb.length c)) d), .s 0 4 l.length c1, .s 1 4 r.length c2] (fun n => if n = 0 then A1 else A2) [⟨1, false, 62, 4, c2, .rows Cl rC (r)⟩, ⟨0, false, 62, 4, c1, .rows Cl rC (l)⟩] 2 rfl rfl (.ro (.ro (hp0 _ _ _) _ rfl rfl rfl (ro_rows h1 rfl _)) _ rfl rfl rfl (ro_rows h2 rfl _)) ?_
  ((conv=>whnf);(repeat(refine And.intro ?_ ?_;(focus((first|omega|exact⟨rfl,True.intro⟩|exact⟨rfl,rfl,True.intro⟩|rfl|(simp only[List.length_set];first|omega|(refine⟨?_,?_⟩<;>omega)|(refine⟨?_,?_,?_⟩<;>omega))|(intro hg;(try simp only[bB]at hg);first|omega|(refine⟨?_,?_⟩<;>omega)|(refine⟨?_,?_,?_⟩<;>first|omega|(show _<_;(try simp only[List.length_set]);omega)|exact leT rfl))|(refine⟨?_,?_⟩<;>omega)|(refine⟨?_,?_,?_⟩<;>first|omega|(show _<_;(try simp only[List.length_set]);omega)|exact leT rfl)|(simp only[show rI.d=(0:Int)from rfl];omega));done));(conv=>whnf))))
  refine EvIf.neg (by simp; omega) ?_
  ((conv=>whnf);(repeat(refine And.intro ?_ ?_;(focus((first|omega|exact⟨rfl,True.intro⟩|exact⟨rfl,rfl,True.intro⟩|rfl|(simp only[List.length_set];first|omega|(refine⟨?_,?_⟩<;>omega)|(refine⟨?_,?_,?_⟩<;>omega))|(intro hg;(try simp only[bB]at hg);first|omega|(refine⟨?_,?_⟩<;>omega)|(refine⟨?_,?_,?_⟩<;>first|omega|(show _<_;(try simp only[List.length_set]);omega)|exact leT rfl))|(refine⟨?_,?_⟩<;>omega)|(refine⟨?_,?_,?_⟩<;>first|omega|(show _<_;(try simp only[List.length_set]);omega)|exact leT rfl)|(simp only[show rI.d=(0:Int)from rfl];omega));done));(conv=>whnf))))
  refine EvCall.plain Try.call31 (.t [.v (.int .i64 (costR d l r).1), .v (.int .i64 (costR d l r).2)]) rfl (fun ρ W hp => cost_s _ _ _ d l r W (hD.below hp.bel) hI (hp.rowsIn (R := rC) (n := 0) (c := c1) rfl (by decide) e1 e2 4) (hp.rowsIn (R := rC) (n := 1) (c := c2) rfl (by decide) e3 e4 4)) ?_
  generalize costR d l r = x at *
  ((conv=>whnf);(repeat(refine And.intro ?_ ?_;(focus((first|omega|exact⟨rfl,True.intro⟩|exact⟨rfl,rfl,True.intro⟩|rfl|(simp only[List.length_set];first|omega|(refine⟨?_,?_⟩<;>omega)|(refine⟨?_,?_,?_⟩<;>omega))|(intro hg;(try simp only[bB]at hg);first|omega|(refine⟨?_,?_⟩<;>omega)|(refine⟨?_,?_,?_⟩<;>first|omega|(show _<_;(try simp only[List.length_set]);omega)|exact leT rfl))|(refine⟨?_,?_⟩<;>omega)|(refine⟨?_,?_,?_⟩<;>first|omega|(show _<_;(try simp only[List.length_set]);omega)|exact leT rfl)|(simp only[show rI.d=(0:Int)from rfl];omega));done));(conv=>whnf))))
  refine EvIf.split (fun g => ?_) (fun g => ?_)
  · rw [if_pos (by simpa using g)]
    ((conv=>whnf);(repeat(refine And.intro ?_ ?_;(focus((first|omega|exact⟨rfl,True.intro⟩|exact⟨rfl,rfl,True.intro⟩|rfl|(simp only[List.length_set];first|omega|(refine⟨?_,?_⟩<;>omega)|(refine⟨?_,?_,?_⟩<;>omega))|(intro hg;(try simp only[bB]at hg);first|omega|(refine⟨?_,?_⟩<;>omega)|(refine⟨?_,?_,?_⟩<;>first|omega|(show _<_;(try simp only[List.length_set]);omega)|exact leT rfl))|(refine⟨?_,?_⟩<;>omega)|(refine⟨?_,?_,?_⟩<;>first|omega|(show _<_;(try simp only[List.length_set]);omega)|exact leT rfl)|(simp only[show rI.d=(0:Int)from rfl];omega));done));(conv=>whnf))))
    exact EvRet.rows3_nil rfl rfl rfl
  rw [if_neg (by simpa using g)]
  ((conv=>whnf);(repeat(refine And.intro ?_ ?_;(focus((first|omega|exact⟨rfl,True.intro⟩|exact⟨rfl,rfl,True.intro⟩|rfl|(simp only[List.length_set];first|omega|(refine⟨?_,?_⟩<;>omega)|(refine⟨?_,?_,?_⟩<;>omega))|(intro hg;(try simp only[bB]at hg);first|omega|(refine⟨?_,?_⟩<;>omega)|(refine⟨?_,?_,?_⟩<;>first|omega|(show _<_;(try simp only[List.length_set]);omega)|exact leT rfl))|(refine⟨?_,?_⟩<;>omega)|(refine⟨?_,?_,?_⟩<;>first|omega|(show _<_;(try simp only[List.length_set]);omega)|exact leT rfl)|(simp only[show rI.d=(0:Int)from rfl];omega));done));(conv=>whnf))))
  refine EvCall.rows (R := rC) (ty := 62) (xs := sortC r) Try.call52 (fun ρ W hp => sortk_s _ r W (hp.rowsIn (R := rC) (n := 1) (c := c2) rfl (by decide) e3 e4 4) hrk) (fun cap hs1 hs2 => ?_)
  ((conv=>whnf);(repeat(refine And.intro ?_ ?_;(focus((first|omega|exact⟨rfl,True.intro⟩|exact⟨rfl,rfl,True.intro⟩|rfl|(simp only[List.length_set];first|omega|(refine⟨?_,?_⟩<;>omega)|(refine⟨?_,?_,?_⟩<;>omega))|(intro hg;(try simp only[bB]at hg);first|omega|(refine⟨?_,?_⟩<;>omega)|(refine⟨?_,?_,?_⟩<;>first|omega|(show _<_;(try simp only[List.length_set]);omega)|exact leT rfl))|(refine⟨?_,?_⟩<;>omega)|(refine⟨?_,?_,?_⟩<;>first|omega|(show _<_;(try simp only[List.length_set]);omega)|exact leT rfl)|(simp only[show rI.d=(0:Int)from rfl];omega));done));(conv=>whnf))))
  exact EvRet.rows3 (R := rC) rfl hs1 rfl rfl rfl rfl
def belowV (n q : Int) : Int := n - (if n.tmod q < 0 then n.tmod q + q else n.tmod q)
theorem belowV_bd {n q : Int} (hq : 1 ≤ q) : n - q < belowV n q ∧ belowV n q ≤ n := by
  have h1 : n.tmod q < q := Int.tmod_lt_of_pos n (by omega)
  have h2 : -q < n.tmod q := by
    have := Int.lt_tmod_of_pos n (show 0 < q by omega)
    exact this
  unfold belowV
  split <;> omega
theorem below_s (n q : Int) (w : World) (hn : -1099511627776 ≤ n ∧ n ≤ 1099511627776) (hq : 1 ≤ q ∧ q ≤ 1073741824) : Con Try.prog 48 #[.int .i64 n, .int .i64 q] w (Ret w (.int .i64 (belowV n q))) := by
  have h1 : n.tmod q < q := Int.tmod_lt_of_pos n (by omega)
  have h2 : -q < n.tmod q := Int.lt_tmod_of_pos n (by omega)
  unfold belowV
  refine enter tabOk mixed Try.func48 rfl Try.ntmps48 Try.results48 [.v (.int .i64 n), .v (.int .i64 q)] (fun _ => none) [] 0 rfl rfl (hp0 _ _ _) ?_
  ((conv=>whnf);(repeat(refine And.intro ?_ ?_;(focus((first|omega|exact⟨rfl,True.intro⟩|exact⟨rfl,rfl,True.intro⟩|rfl|(simp only[List.length_set];first|omega|(refine⟨?_,?_⟩<;>omega)|(refine⟨?_,?_,?_⟩<;>omega))|(intro hg;(try simp only[bB]at hg);first|omega|(refine⟨?_,?_⟩<;>omega)|(refine⟨?_,?_,?_⟩<;>first|omega|(show _<_;(try simp only[List.length_set]);omega)|exact leT rfl))|(refine⟨?_,?_⟩<;>omega)|(refine⟨?_,?_,?_⟩<;>first|omega|(show _<_;(try simp only[List.length_set]);omega)|exact leT rfl)|(simp only[show rI.d=(0:Int)from rfl];omega));done));(conv=>whnf))))
  refine EvIf.split (fun g => ?_) (fun g => ?_)
  · rw [if_pos (by simpa using g)]
    ((conv=>whnf);(repeat(refine And.intro ?_ ?_;(focus((first|omega|exact⟨rfl,True.intro⟩|exact⟨rfl,rfl,True.intro⟩|rfl|(simp only[List.length_set];first|omega|(refine⟨?_,?_⟩<;>omega)|(refine⟨?_,?_,?_⟩<;>omega))|(intro hg;(try simp only[bB]at hg);first|omega|(refine⟨?_,?_⟩<;>omega)|(refine⟨?_,?_,?_⟩<;>first|omega|(show _<_;(try simp only[List.length_set]);omega)|exact leT rfl))|(refine⟨?_,?_⟩<;>omega)|(refine⟨?_,?_,?_⟩<;>first|omega|(show _<_;(try simp only[List.length_set]);omega)|exact leT rfl)|(simp only[show rI.d=(0:Int)from rfl];omega));done));(conv=>whnf))))
    exact EvRet.ret (fun _ => rfl)
  · rw [if_neg (by simpa using g)]
    ((conv=>whnf);(repeat(refine And.intro ?_ ?_;(focus((first|omega|exact⟨rfl,True.intro⟩|exact⟨rfl,rfl,True.intro⟩|rfl|(simp only[List.length_set];first|omega|(refine⟨?_,?_⟩<;>omega)|(refine⟨?_,?_,?_⟩<;>omega))|(intro hg;(try simp only[bB]at hg);first|omega|(refine⟨?_,?_⟩<;>omega)|(refine⟨?_,?_,?_⟩<;>first|omega|(show _<_;(try simp only[List.length_set]);omega)|exact leT rfl))|(refine⟨?_,?_⟩<;>omega)|(refine⟨?_,?_,?_⟩<;>first|omega|(show _<_;(try simp only[List.length_set]);omega)|exact leT rfl)|(simp only[show rI.d=(0:Int)from rfl];omega));done));(conv=>whnf))))
    exact EvRet.ret (fun _ => rfl)
end Go.Proofs.Ytpnngbfmmjjnaaa
