
/- The law LabelsSelective. -/
import Derived.Test.YtebfhljamoapjaaKn
namespace Go.Proofs.Ytebfhljamoapjaa
open Go.RowKit
set_option linter.unusedVariables false
set_option linter.unusedSimpArgs false

set_option maxRecDepth 10000 in
theorem labelsselective_s (V0 V1 V2 : Value) (zs ms ns : List Int) (k : Int) (w : World) (h0 : Ints w V0 zs) (h1 : Ints w V1 ms) (h2 : Ints w V2 ns) (hk : I64 k) : Con Try.prog 11 #[V0, V1, V2, .int .i64 k] w (Ret w (.bool true)) := by
  obtain ⟨A1, c1, rfl, e1, e2⟩ := h0.form
  obtain ⟨A2, c2, rfl, f1, f2⟩ := h1.form
  obtain ⟨A3, c3, rfl, g1, g2⟩ := h2.form
  have hss := set_lbs zs
  have hal := match_len ms
  have hbl := match_len ns
  refine enter tabOk mixed Try.func11 rfl Try.ntmps11 Try.results11 [.s 0 1 zs.length c1, .s 1 1 ms.length c2, .s 2 1 ns.length c3, .v (.int .i64 k)] (fun n => if n = 0 then A1 else if n = 1 then A2 else A3) [⟨0, false, 3, 1, c1, .rows Int rI (zs)⟩, ⟨1, false, 3, 1, c2, .rows Int rI (ms)⟩, ⟨2, false, 3, 1, c3, .rows Int rI (ns)⟩] 3 rfl rfl (.ro (.ro (.ro (hp0 _ _ _) _ rfl rfl rfl (ro_ints h2 rfl _)) _ rfl rfl rfl (ro_ints h1 rfl _)) _ rfl rfl rfl (ro_ints h0 rfl _)) ?_
  ((conv=>whnf);(repeat(refine And.intro ?_ ?_;(focus((first|omega|exact⟨rfl,True.intro⟩|exact⟨rfl,rfl,True.intro⟩|rfl|(simp only[List.length_set];first|omega|(refine⟨?_,?_⟩<;>omega)|(refine⟨?_,?_,?_⟩<;>omega))|(intro hg;(try simp only[bB]at hg);first|omega|(refine⟨?_,?_⟩<;>omega)|(refine⟨?_,?_,?_⟩<;>first|omega|(show _<_;(try simp only[List.length_set]);omega)|exact leT rfl))|(refine⟨?_,?_⟩<;>omega)|(refine⟨?_,?_,?_⟩<;>first|omega|(show _<_;(try simp only[List.length_set]);omega)|exact leT rfl)|(simp only[show rI.d=(0:Int)from rfl];omega));done));(conv=>whnf))))
  refine EvCall.rows (R := rL) (ty := 62) (xs := setL zs) Try.call43 (fun ρ W hp => set_s _ zs W (hp.ints (n := 0) rfl e1 e2 h0.2)) (fun ca ha1 ha2 => ?_)
  ((conv=>whnf);(repeat(refine And.intro ?_ ?_;(focus((first|omega|exact⟨rfl,True.intro⟩|exact⟨rfl,rfl,True.intro⟩|rfl|(simp only[List.length_set];first|omega|(refine⟨?_,?_⟩<;>omega)|(refine⟨?_,?_,?_⟩<;>omega))|(intro hg;(try simp only[bB]at hg);first|omega|(refine⟨?_,?_⟩<;>omega)|(refine⟨?_,?_,?_⟩<;>first|omega|(show _<_;(try simp only[List.length_set]);omega)|exact leT rfl))|(refine⟨?_,?_⟩<;>omega)|(refine⟨?_,?_,?_⟩<;>first|omega|(show _<_;(try simp only[List.length_set]);omega)|exact leT rfl)|(simp only[show rI.d=(0:Int)from rfl];omega));done));(conv=>whnf))))
  refine EvCall.rows (R := rM) (ty := 56) (xs := matchL ms) Try.call54 (fun ρ W hp => matchers_s _ ms W (hp.ints (n := 1) rfl f1 f2 h1.2)) (fun cb hb1 hb2 => ?_)
  ((conv=>whnf);(repeat(refine And.intro ?_ ?_;(focus((first|omega|exact⟨rfl,True.intro⟩|exact⟨rfl,rfl,True.intro⟩|rfl|(simp only[List.length_set];first|omega|(refine⟨?_,?_⟩<;>omega)|(refine⟨?_,?_,?_⟩<;>omega))|(intro hg;(try simp only[bB]at hg);first|omega|(refine⟨?_,?_⟩<;>omega)|(refine⟨?_,?_,?_⟩<;>first|omega|(show _<_;(try simp only[List.length_set]);omega)|exact leT rfl))|(refine⟨?_,?_⟩<;>omega)|(refine⟨?_,?_,?_⟩<;>first|omega|(show _<_;(try simp only[List.length_set]);omega)|exact leT rfl)|(simp only[show rI.d=(0:Int)from rfl];omega));done));(conv=>whnf))))
  refine EvCall.rows (R := rM) (ty := 56) (xs := matchL ns) Try.call54 (fun ρ W hp => matchers_s _ ns W (hp.ints (n := 2) rfl g1 g2 h2.2)) (fun cc hc1 hc2 => ?_)
  generalize setL zs = s at *
  generalize matchL ms = a at *
  generalize matchL ns = b at *
  have hsl := hss.1
  ((conv=>whnf);(repeat(refine And.intro ?_ ?_;(focus((first|omega|exact⟨rfl,True.intro⟩|exact⟨rfl,rfl,True.intro⟩|rfl|(simp only[List.length_set];first|omega|(refine⟨?_,?_⟩<;>omega)|(refine⟨?_,?_,?_⟩<;>omega))|(intro hg;(try simp only[bB]at hg);first|omega|(refine⟨?_,?_⟩<;>omega)|(refine⟨?_,?_,?_⟩<;>first|omega|(show _<_;(try simp only[List.length_set]);omega)|exact leT rfl))|(refine⟨?_,?_⟩<;>omega)|(refine⟨?_,?_,?_⟩<;>first|omega|(show _<_;(try simp only[List.length_set]);omega)|exact leT rfl)|(simp only[show rI.d=(0:Int)from rfl];omega));done));(conv=>whnf))))
  refine EvLoop.inv (α := Nat × Nat) (fun p => p.1 ≤ a.length ∧ p.1 ≤ p.2 ∧ p.2 ≤ 9223372036854775807) (fun p => a.length - p.1) (fun p => [(13, [], .v (.int .i64 ((p.1 : Int)))), (12, [], .s 6 1 p.1 p.2), (11, [], .s 5 3 b.length cc), (10, [], .s 4 3 a.length cb), (9, [], .s 3 2 s.length ca), (2, [], .s 2 1 ns.length c3), (3, [], .v (.int .i64 (k)))])
    (fun p => [⟨6, true, 9, 1, p.2, .rows ByteArray rS ((a.take p.1).map Mt.n)⟩, ⟨5, true, 56, 3, cc, .rows Mt rM b⟩, ⟨4, true, 56, 3, cb, .rows Mt rM a⟩, ⟨3, true, 62, 2, ca, .rows Lb rL s⟩, ⟨2, false, 3, 1, c3, .rows Int rI ns⟩]) 7 (0, 0) ⟨by simp, by simp, by decide⟩ (Sub.of [] [6] rfl ?_) ?_
  · ((repeat' (refine And.intro ?_ ?_)) <;> first | rfl | exact True.intro | omega)
  intro p ⟨hi1, hi3, hi4⟩
  have hll : ((a.take p.1).map Mt.n).length = p.1 := by simp; omega
  ((conv=>whnf);(repeat(refine And.intro ?_ ?_;(focus((first|omega|exact⟨rfl,True.intro⟩|exact⟨rfl,rfl,True.intro⟩|rfl|(simp only[List.length_set];first|omega|(refine⟨?_,?_⟩<;>omega)|(refine⟨?_,?_,?_⟩<;>omega))|(intro hg;(try simp only[bB]at hg);first|omega|(refine⟨?_,?_⟩<;>omega)|(refine⟨?_,?_,?_⟩<;>first|omega|(show _<_;(try simp only[List.length_set]);omega)|exact leT rfl))|(refine⟨?_,?_⟩<;>omega)|(refine⟨?_,?_,?_⟩<;>first|omega|(show _<_;(try simp only[List.length_set]);omega)|exact leT rfl)|(simp only[show rI.d=(0:Int)from rfl];omega));done));(conv=>whnf))))
  refine EvIf.split (fun q1 => ?_) (fun q1 => ?_)
  · simp only [decide_eq_true_eq] at q1
    have htk : (a.take p.1).map Mt.n ++ [(a.getD p.1 mt0).n] = (a.take (p.1 + 1)).map Mt.n := by rw [take_snoc a p.1 mt0 (by omega)]; simp
    ((conv=>whnf);(repeat(refine And.intro ?_ ?_;(focus((first|omega|exact⟨rfl,True.intro⟩|exact⟨rfl,rfl,True.intro⟩|rfl|(simp only[List.length_set];first|omega|(refine⟨?_,?_⟩<;>omega)|(refine⟨?_,?_,?_⟩<;>omega))|(intro hg;(try simp only[bB]at hg);first|omega|(refine⟨?_,?_⟩<;>omega)|(refine⟨?_,?_,?_⟩<;>first|omega|(show _<_;(try simp only[List.length_set]);omega)|exact leT rfl))|(refine⟨?_,?_⟩<;>omega)|(refine⟨?_,?_,?_⟩<;>first|omega|(show _<_;(try simp only[List.length_set]);omega)|exact leT rfl)|(simp only[show rI.d=(0:Int)from rfl];omega));done));(conv=>whnf))))
    refine EvBi.append (R := rS) tyok74 rfl tyok9 rfl (by decide) rfl rfl hll.symm (by rw [hll]; exact hi3) [(a.getD p.1 mt0).n] (fun ρ W hp => hp.lit (R := rS) (ys := [(a.getD p.1 mt0).n]) rfl (by decide) (by simp) (by omega) rfl) (by rw [hll]; show (_ + 1) * 16 ≤ _; omega) (by rw [hll]; show _ + 1 ≤ _; omega) (fun cap' hq1 hq2 => ?_)
    rw [hll] at hq1
    rw [htk]
    ((conv=>whnf);(repeat(refine And.intro ?_ ?_;(focus((first|omega|exact⟨rfl,True.intro⟩|exact⟨rfl,rfl,True.intro⟩|rfl|(simp only[List.length_set];first|omega|(refine⟨?_,?_⟩<;>omega)|(refine⟨?_,?_,?_⟩<;>omega))|(intro hg;(try simp only[bB]at hg);first|omega|(refine⟨?_,?_⟩<;>omega)|(refine⟨?_,?_,?_⟩<;>first|omega|(show _<_;(try simp only[List.length_set]);omega)|exact leT rfl))|(refine⟨?_,?_⟩<;>omega)|(refine⟨?_,?_,?_⟩<;>first|omega|(show _<_;(try simp only[List.length_set]);omega)|exact leT rfl)|(simp only[show rI.d=(0:Int)from rfl];omega));done));(conv=>whnf))))
    refine LoopI.back (p.1 + 1, cap') ⟨by show p.1 + 1 ≤ a.length; omega, hq1, hq2⟩ (by show a.length - (p.1 + 1) < a.length - p.1; omega) (Sub.of [(6, 8)] [] rfl ?_)
    (repeat' (refine And.intro ?_ ?_)) <;> first | rfl | exact True.intro | (rw [hll]; rfl) | omega
  simp only [decide_eq_false_iff_not] at q1
  obtain ⟨m, cf⟩ := p
  obtain rfl : m = a.length := by simp only at q1 hi1; omega
  simp only [List.take_length] at hi3 hi4 hll ⊢
  have hmem : ∀ m ∈ a, m.n ∈ a.map Mt.n := fun m hm => List.mem_map.2 ⟨m, hm, rfl⟩
  have hmk := match_keep a (a.map Mt.n) hmem s
  have hab := match_app s a b
  generalize hF : a.map Mt.n = F at *
  rw [← hll] at hi3
  rw [show (SV.s 6 1 a.length cf) = SV.s 6 1 F.length cf by rw [hll]]
  clear hF hmem
  have hkl := keep_len F s
  have o1 := arnd_nn k 6 (by decide)
  have o2 := arnd_lt k 6 (by decide)
  have hlen : (a ++ b).length = a.length + b.length := by simp
  ((conv=>whnf);(repeat(refine And.intro ?_ ?_;(focus((first|omega|exact⟨rfl,True.intro⟩|exact⟨rfl,rfl,True.intro⟩|rfl|(simp only[List.length_set];first|omega|(refine⟨?_,?_⟩<;>omega)|(refine⟨?_,?_,?_⟩<;>omega))|(intro hg;(try simp only[bB]at hg);first|omega|(refine⟨?_,?_⟩<;>omega)|(refine⟨?_,?_,?_⟩<;>first|omega|(show _<_;(try simp only[List.length_set]);omega)|exact leT rfl))|(refine⟨?_,?_⟩<;>omega)|(refine⟨?_,?_,?_⟩<;>first|omega|(show _<_;(try simp only[List.length_set]);omega)|exact leT rfl)|(simp only[show rI.d=(0:Int)from rfl];omega));done));(conv=>whnf))))
  refine EvBi.append_nil (R := rM) tyok78 rfl tyok56 rfl (by decide) rfl a (fun ρ W hp => hp.rowsIn (R := rM) (n := 4) (c := cb) rfl (by decide) hb1 hb2 3) (by show a.length * 40 ≤ _; omega) (by omega) (fun cg hg1 hg2 => ?_)
  ((conv=>whnf);(repeat(refine And.intro ?_ ?_;(focus((first|omega|exact⟨rfl,True.intro⟩|exact⟨rfl,rfl,True.intro⟩|rfl|(simp only[List.length_set];first|omega|(refine⟨?_,?_⟩<;>omega)|(refine⟨?_,?_,?_⟩<;>omega))|(intro hg;(try simp only[bB]at hg);first|omega|(refine⟨?_,?_⟩<;>omega)|(refine⟨?_,?_,?_⟩<;>first|omega|(show _<_;(try simp only[List.length_set]);omega)|exact leT rfl))|(refine⟨?_,?_⟩<;>omega)|(refine⟨?_,?_,?_⟩<;>first|omega|(show _<_;(try simp only[List.length_set]);omega)|exact leT rfl)|(simp only[show rI.d=(0:Int)from rfl];omega));done));(conv=>whnf))))
  refine EvBi.append (R := rM) tyok78 rfl tyok56 rfl (by decide) rfl rfl rfl hg1 b (fun ρ W hp => hp.rowsIn (R := rM) (n := 5) (c := cc) rfl (by decide) hc1 hc2 3) (by show (a.length + b.length) * 40 ≤ _; omega) (by omega) (fun ch hh1 hh2 => ?_)
  rw [← hlen] at hh1 ⊢
  ((conv=>whnf);(repeat(refine And.intro ?_ ?_;(focus((first|omega|exact⟨rfl,True.intro⟩|exact⟨rfl,rfl,True.intro⟩|rfl|(simp only[List.length_set];first|omega|(refine⟨?_,?_⟩<;>omega)|(refine⟨?_,?_,?_⟩<;>omega))|(intro hg;(try simp only[bB]at hg);first|omega|(refine⟨?_,?_⟩<;>omega)|(refine⟨?_,?_,?_⟩<;>first|omega|(show _<_;(try simp only[List.length_set]);omega)|exact leT rfl))|(refine⟨?_,?_⟩<;>omega)|(refine⟨?_,?_,?_⟩<;>first|omega|(show _<_;(try simp only[List.length_set]);omega)|exact leT rfl)|(simp only[show rI.d=(0:Int)from rfl];omega));done));(conv=>whnf))))
  refine EvCall.plain Try.call55 (.v (.bool (matchP s a))) rfl (fun ρ W hp => match_s _ _ s a W (hp.rowsIn (R := rL) (n := 3) (c := ca) rfl (by decide) ha1 ha2 2) (hp.rowsIn (R := rM) (n := 4) (c := cb) rfl (by decide) hb1 hb2 3)) ?_
  ((conv=>whnf);(repeat(refine And.intro ?_ ?_;(focus((first|omega|exact⟨rfl,True.intro⟩|exact⟨rfl,rfl,True.intro⟩|rfl|(simp only[List.length_set];first|omega|(refine⟨?_,?_⟩<;>omega)|(refine⟨?_,?_,?_⟩<;>omega))|(intro hg;(try simp only[bB]at hg);first|omega|(refine⟨?_,?_⟩<;>omega)|(refine⟨?_,?_,?_⟩<;>first|omega|(show _<_;(try simp only[List.length_set]);omega)|exact leT rfl))|(refine⟨?_,?_⟩<;>omega)|(refine⟨?_,?_,?_⟩<;>first|omega|(show _<_;(try simp only[List.length_set]);omega)|exact leT rfl)|(simp only[show rI.d=(0:Int)from rfl];omega));done));(conv=>whnf))))
  refine EvCall.rows (R := rL) (ty := 62) (xs := keepP F s) Try.call52 (fun ρ W hp => keep_s _ _ s F W (hp.rowsIn (R := rL) (n := 3) (c := ca) rfl (by decide) ha1 ha2 2) (hp.rowsIn (R := rS) (n := 6) (c := cf) rfl (by decide) hi3 hi4 1) hsl) (fun cx hx1 hx2 => ?_)
  ((conv=>whnf);(repeat(refine And.intro ?_ ?_;(focus((first|omega|exact⟨rfl,True.intro⟩|exact⟨rfl,rfl,True.intro⟩|rfl|(simp only[List.length_set];first|omega|(refine⟨?_,?_⟩<;>omega)|(refine⟨?_,?_,?_⟩<;>omega))|(intro hg;(try simp only[bB]at hg);first|omega|(refine⟨?_,?_⟩<;>omega)|(refine⟨?_,?_,?_⟩<;>first|omega|(show _<_;(try simp only[List.length_set]);omega)|exact leT rfl))|(refine⟨?_,?_⟩<;>omega)|(refine⟨?_,?_,?_⟩<;>first|omega|(show _<_;(try simp only[List.length_set]);omega)|exact leT rfl)|(simp only[show rI.d=(0:Int)from rfl];omega));done));(conv=>whnf))))
  refine EvCall.plain Try.call55 (.v (.bool (matchP s a))) rfl (fun ρ W hp => by
    have := match_s _ _ (keepP F s) a W (hp.rowsIn (R := rL) (n := 9) (c := cx) rfl (by decide) hx1 hx2 2) (hp.rowsIn (R := rM) (n := 4) (c := cb) rfl (by decide) hb1 hb2 3)
    rw [hmk] at this
    exact this) ?_
  ((conv=>whnf);(repeat(refine And.intro ?_ ?_;(focus((first|omega|exact⟨rfl,True.intro⟩|exact⟨rfl,rfl,True.intro⟩|rfl|(simp only[List.length_set];first|omega|(refine⟨?_,?_⟩<;>omega)|(refine⟨?_,?_,?_⟩<;>omega))|(intro hg;(try simp only[bB]at hg);first|omega|(refine⟨?_,?_⟩<;>omega)|(refine⟨?_,?_,?_⟩<;>first|omega|(show _<_;(try simp only[List.length_set]);omega)|exact leT rfl))|(refine⟨?_,?_⟩<;>omega)|(refine⟨?_,?_,?_⟩<;>first|omega|(show _<_;(try simp only[List.length_set]);omega)|exact leT rfl)|(simp only[show rI.d=(0:Int)from rfl];omega));done));(conv=>whnf))))
  refine EvCallC.plain Try.call55 (.v (.bool (matchP s a && matchP s b))) rfl (fun hc ρ W hp => by
    have := match_s _ _ s (a ++ b) W (hp.rowsIn (R := rL) (n := 3) (c := ca) rfl (by decide) ha1 ha2 2) (hp.rowsIn (R := rM) (n := 8) (c := ch) rfl (by decide) hh1 hh2 3)
    rw [hab] at this
    exact this) ?_
  ((conv=>whnf);(repeat(refine And.intro ?_ ?_;(focus((first|omega|exact⟨rfl,True.intro⟩|exact⟨rfl,rfl,True.intro⟩|rfl|(simp only[List.length_set];first|omega|(refine⟨?_,?_⟩<;>omega)|(refine⟨?_,?_,?_⟩<;>omega))|(intro hg;(try simp only[bB]at hg);first|omega|(refine⟨?_,?_⟩<;>omega)|(refine⟨?_,?_,?_⟩<;>first|omega|(show _<_;(try simp only[List.length_set]);omega)|exact leT rfl))|(refine⟨?_,?_⟩<;>omega)|(refine⟨?_,?_,?_⟩<;>first|omega|(show _<_;(try simp only[List.length_set]);omega)|exact leT rfl)|(simp only[show rI.d=(0:Int)from rfl];omega));done));(conv=>whnf))))
  refine EvCallC.plain Try.call55 (.v (.bool (matchP s b))) rfl (fun hc ρ W hp => match_s _ _ s b W (hp.rowsIn (R := rL) (n := 3) (c := ca) rfl (by decide) ha1 ha2 2) (hp.rowsIn (R := rM) (n := 5) (c := cc) rfl (by decide) hc1 hc2 3)) ?_
  ((conv=>whnf);(repeat(refine And.intro ?_ ?_;(focus((first|omega|exact⟨rfl,True.intro⟩|exact⟨rfl,rfl,True.intro⟩|rfl|(simp only[List.length_set];first|omega|(refine⟨?_,?_⟩<;>omega)|(refine⟨?_,?_,?_⟩<;>omega))|(intro hg;(try simp only[bB]at hg);first|omega|(refine⟨?_,?_⟩<;>omega)|(refine⟨?_,?_,?_⟩<;>first|omega|(show _<_;(try simp only[List.length_set]);omega)|exact leT rfl))|(refine⟨?_,?_⟩<;>omega)|(refine⟨?_,?_,?_⟩<;>first|omega|(show _<_;(try simp only[List.length_set]);omega)|exact leT rfl)|(simp only[show rI.d=(0:Int)from rfl];omega));done));(conv=>whnf))))
  refine EvIf.neg (by simp) ?_
  have hn6 : namesL.length = 6 := rfl
  ((conv=>whnf);(repeat(refine And.intro ?_ ?_;(focus((first|omega|exact⟨rfl,True.intro⟩|exact⟨rfl,rfl,True.intro⟩|rfl|(simp only[List.length_set];first|omega|(refine⟨?_,?_⟩<;>omega)|(refine⟨?_,?_,?_⟩<;>omega))|(intro hg;(try simp only[bB]at hg);first|omega|(refine⟨?_,?_⟩<;>omega)|(refine⟨?_,?_,?_⟩<;>first|omega|(show _<_;(try simp only[List.length_set]);omega)|exact leT rfl))|(refine⟨?_,?_⟩<;>omega)|(refine⟨?_,?_,?_⟩<;>first|omega|(show _<_;(try simp only[List.length_set]);omega)|exact leT rfl)|(simp only[show rI.d=(0:Int)from rfl];omega));done));(conv=>whnf))))
  refine EvCall.rows (R := rS) (ty := 9) (xs := namesL) Try.call51 (fun ρ W hp => names_s W) (fun cn hn1 hn2 => ?_)
  ((conv=>whnf);(repeat(refine And.intro ?_ ?_;(focus((first|omega|exact⟨rfl,True.intro⟩|exact⟨rfl,rfl,True.intro⟩|rfl|(simp only[List.length_set];first|omega|(refine⟨?_,?_⟩<;>omega)|(refine⟨?_,?_,?_⟩<;>omega))|(intro hg;(try simp only[bB]at hg);first|omega|(refine⟨?_,?_⟩<;>omega)|(refine⟨?_,?_,?_⟩<;>first|omega|(show _<_;(try simp only[List.length_set]);omega)|exact leT rfl))|(refine⟨?_,?_⟩<;>omega)|(refine⟨?_,?_,?_⟩<;>first|omega|(show _<_;(try simp only[List.length_set]);omega)|exact leT rfl)|(simp only[show rI.d=(0:Int)from rfl];omega));done));(conv=>whnf))))
  refine EvCall.plain Try.call24 (.v (.int .i64 (arnd k 6))) rfl (fun ρ W hp => around_s _ _ _ hk (by decide) (by decide)) ?_
  ((conv=>whnf);(repeat(refine And.intro ?_ ?_;(focus((first|omega|exact⟨rfl,True.intro⟩|exact⟨rfl,rfl,True.intro⟩|rfl|(simp only[List.length_set];first|omega|(refine⟨?_,?_⟩<;>omega)|(refine⟨?_,?_,?_⟩<;>omega))|(intro hg;(try simp only[bB]at hg);first|omega|(refine⟨?_,?_⟩<;>omega)|(refine⟨?_,?_,?_⟩<;>first|omega|(show _<_;(try simp only[List.length_set]);omega)|exact leT rfl))|(refine⟨?_,?_⟩<;>omega)|(refine⟨?_,?_,?_⟩<;>first|omega|(show _<_;(try simp only[List.length_set]);omega)|exact leT rfl)|(simp only[show rI.d=(0:Int)from rfl];omega));done));(conv=>whnf))))
  refine EvCall.rows (R := rL) (ty := 62) (xs := setL ns) Try.call43 (fun ρ W hp => set_s _ ns W (hp.ints (n := 2) rfl g1 g2 h2.2)) (fun cz hz1 hz2 => ?_)
  generalize setL ns = t at *
  ((conv=>whnf);(repeat(refine And.intro ?_ ?_;(focus((first|omega|exact⟨rfl,True.intro⟩|exact⟨rfl,rfl,True.intro⟩|rfl|(simp only[List.length_set];first|omega|(refine⟨?_,?_⟩<;>omega)|(refine⟨?_,?_,?_⟩<;>omega))|(intro hg;(try simp only[bB]at hg);first|omega|(refine⟨?_,?_⟩<;>omega)|(refine⟨?_,?_,?_⟩<;>first|omega|(show _<_;(try simp only[List.length_set]);omega)|exact leT rfl))|(refine⟨?_,?_⟩<;>omega)|(refine⟨?_,?_,?_⟩<;>first|omega|(show _<_;(try simp only[List.length_set]);omega)|exact leT rfl)|(simp only[show rI.d=(0:Int)from rfl];omega));done));(conv=>whnf))))
  refine EvCall.plain Try.call39 (.v (.string (getP t (namesL.getD (arnd k 6).toNat ByteArray.empty)))) rfl (fun ρ W hp => get_s _ t _ W (hp.rowsIn (R := rL) (n := 11) (c := cz) rfl (by decide) hz1 hz2 2)) ?_
  obtain ⟨x, hx⟩ : ∃ x, namesL.getD (arnd k 6).toNat ByteArray.empty = x := ⟨_, rfl⟩
  have hx' : namesL.getD (arnd k 6).toNat rS.d = x := hx
  rw [hx]
  obtain ⟨y, hy⟩ : ∃ y, getP t x = y := ⟨_, rfl⟩
  rw [hy]
  rw [hx']
  have m0 := match_one s ⟨x, 0, y⟩
  have m1 := match_one s ⟨x, 1, y⟩
  have m2 := match_one s ⟨x, 2, y⟩
  have ps := pref_self y
  ((conv=>whnf);(repeat(refine And.intro ?_ ?_;(focus((first|omega|exact⟨rfl,True.intro⟩|exact⟨rfl,rfl,True.intro⟩|rfl|(simp only[List.length_set];first|omega|(refine⟨?_,?_⟩<;>omega)|(refine⟨?_,?_,?_⟩<;>omega))|(intro hg;(try simp only[bB]at hg);first|omega|(refine⟨?_,?_⟩<;>omega)|(refine⟨?_,?_,?_⟩<;>first|omega|(show _<_;(try simp only[List.length_set]);omega)|exact leT rfl))|(refine⟨?_,?_⟩<;>omega)|(refine⟨?_,?_,?_⟩<;>first|omega|(show _<_;(try simp only[List.length_set]);omega)|exact leT rfl)|(simp only[show rI.d=(0:Int)from rfl];omega));done));(conv=>whnf))))
  refine EvCall.plain Try.call55 (.v (.bool (matchP s [⟨x, 0, y⟩]))) rfl (fun ρ W hp => match_s _ _ s [⟨x, 0, y⟩] W (hp.rowsIn (R := rL) (n := 3) (c := ca) rfl (by decide) ha1 ha2 2) (hp.lit (R := rM) (ys := [⟨x, 0, y⟩]) (n := 12) (sz := 3) (c := 1) rfl (by decide) (by simp) (by omega) rfl)) ?_
  ((conv=>whnf);(repeat(refine And.intro ?_ ?_;(focus((first|omega|exact⟨rfl,True.intro⟩|exact⟨rfl,rfl,True.intro⟩|rfl|(simp only[List.length_set];first|omega|(refine⟨?_,?_⟩<;>omega)|(refine⟨?_,?_,?_⟩<;>omega))|(intro hg;(try simp only[bB]at hg);first|omega|(refine⟨?_,?_⟩<;>omega)|(refine⟨?_,?_,?_⟩<;>first|omega|(show _<_;(try simp only[List.length_set]);omega)|exact leT rfl))|(refine⟨?_,?_⟩<;>omega)|(refine⟨?_,?_,?_⟩<;>first|omega|(show _<_;(try simp only[List.length_set]);omega)|exact leT rfl)|(simp only[show rI.d=(0:Int)from rfl];omega));done));(conv=>whnf))))
  refine EvCall.plain Try.call55 (.v (.bool (matchP s [⟨x, 1, y⟩]))) rfl (fun ρ W hp => match_s _ _ s [⟨x, 1, y⟩] W (hp.rowsIn (R := rL) (n := 3) (c := ca) rfl (by decide) ha1 ha2 2) (hp.lit (R := rM) (ys := [⟨x, 1, y⟩]) (n := 13) (sz := 3) (c := 1) rfl (by decide) (by simp) (by omega) rfl)) ?_
  ((conv=>whnf);(repeat(refine And.intro ?_ ?_;(focus((first|omega|exact⟨rfl,True.intro⟩|exact⟨rfl,rfl,True.intro⟩|rfl|(simp only[List.length_set];first|omega|(refine⟨?_,?_⟩<;>omega)|(refine⟨?_,?_,?_⟩<;>omega))|(intro hg;(try simp only[bB]at hg);first|omega|(refine⟨?_,?_⟩<;>omega)|(refine⟨?_,?_,?_⟩<;>first|omega|(show _<_;(try simp only[List.length_set]);omega)|exact leT rfl))|(refine⟨?_,?_⟩<;>omega)|(refine⟨?_,?_,?_⟩<;>first|omega|(show _<_;(try simp only[List.length_set]);omega)|exact leT rfl)|(simp only[show rI.d=(0:Int)from rfl];omega));done));(conv=>whnf))))
  refine EvCall.plain Try.call55 (.v (.bool (matchP s [⟨x, 2, y⟩]))) rfl (fun ρ W hp => match_s _ _ s [⟨x, 2, y⟩] W (hp.rowsIn (R := rL) (n := 3) (c := ca) rfl (by decide) ha1 ha2 2) (hp.lit (R := rM) (ys := [⟨x, 2, y⟩]) (n := 14) (sz := 3) (c := 1) rfl (by decide) (by simp) (by omega) rfl)) ?_
  rw [m0, m1, m2]
  ((conv=>whnf);(repeat(refine And.intro ?_ ?_;(focus((first|omega|exact⟨rfl,True.intro⟩|exact⟨rfl,rfl,True.intro⟩|rfl|(simp only[List.length_set];first|omega|(refine⟨?_,?_⟩<;>omega)|(refine⟨?_,?_,?_⟩<;>omega))|(intro hg;(try simp only[bB]at hg);first|omega|(refine⟨?_,?_⟩<;>omega)|(refine⟨?_,?_,?_⟩<;>first|omega|(show _<_;(try simp only[List.length_set]);omega)|exact leT rfl))|(refine⟨?_,?_⟩<;>omega)|(refine⟨?_,?_,?_⟩<;>first|omega|(show _<_;(try simp only[List.length_set]);omega)|exact leT rfl)|(simp only[show rI.d=(0:Int)from rfl];omega));done));(conv=>whnf))))
  refine EvCallC.plain Try.call39 (.v (.string (getP s x))) rfl (fun hc ρ W hp => get_s _ s _ W (hp.rowsIn (R := rL) (n := 3) (c := ca) rfl (by decide) ha1 ha2 2)) ?_
  ((conv=>whnf);(repeat(refine And.intro ?_ ?_;(focus((first|omega|exact⟨rfl,True.intro⟩|exact⟨rfl,rfl,True.intro⟩|rfl|(simp only[List.length_set];first|omega|(refine⟨?_,?_⟩<;>omega)|(refine⟨?_,?_,?_⟩<;>omega))|(intro hg;(try simp only[bB]at hg);first|omega|(refine⟨?_,?_⟩<;>omega)|(refine⟨?_,?_,?_⟩<;>first|omega|(show _<_;(try simp only[List.length_set]);omega)|exact leT rfl))|(refine⟨?_,?_⟩<;>omega)|(refine⟨?_,?_,?_⟩<;>first|omega|(show _<_;(try simp only[List.length_set]);omega)|exact leT rfl)|(simp only[show rI.d=(0:Int)from rfl];omega));done));(conv=>whnf))))
  refine EvCallC.plain Try.call37 (.v (.bool true)) rfl (fun hc ρ W hp => lives5_s W) ?_
  ((conv=>whnf);(repeat(refine And.intro ?_ ?_;(focus((first|omega|exact⟨rfl,True.intro⟩|exact⟨rfl,rfl,True.intro⟩|rfl|(simp only[List.length_set];first|omega|(refine⟨?_,?_⟩<;>omega)|(refine⟨?_,?_,?_⟩<;>omega))|(intro hg;(try simp only[bB]at hg);first|omega|(refine⟨?_,?_⟩<;>omega)|(refine⟨?_,?_,?_⟩<;>first|omega|(show _<_;(try simp only[List.length_set]);omega)|exact leT rfl))|(refine⟨?_,?_⟩<;>omega)|(refine⟨?_,?_,?_⟩<;>first|omega|(show _<_;(try simp only[List.length_set]);omega)|exact leT rfl)|(simp only[show rI.d=(0:Int)from rfl];omega));done));(conv=>whnf))))
  exact EvRet.ret (fun ρ => by
    simp only [den, tl_eq, Value.bool.injEq]
    unfold holdsP
    by_cases h : getP s x = y
    · simp [h, ps]
    · simp [h])
theorem walk_LabelsSelective (w : World) (V0 : Value) (zs : List Int) (h0 : Ints w V0 zs) (V1 : Value) (ms : List Int) (h1 : Ints w V1 ms) (V2 : Value) (ns : List Int) (h2 : Ints w V2 ns) (k : Int) (hk : I64 k) :
    Calls Try.prog 11 #[V0, V1, V2, .int .i64 k] w fun e w' => e = .returned (.bool true) ∧ Below w.heap.size w w' := (labelsselective_s V0 V1 V2 zs ms ns k w h0 h1 h2 hk).out
end Go.Proofs.Ytebfhljamoapjaa
