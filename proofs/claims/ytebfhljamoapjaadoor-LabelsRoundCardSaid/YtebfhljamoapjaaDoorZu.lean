
/- The bytes of a string as an object that nobody writes; their hash; the law LabelsRound, walked. -/
import Derived.Test.YtebfhljamoapjaaDoorZt
import Derived.Test.YtebfhljamoapjaaDoorZs
import Derived.Lib.ConvBytes
import Derived.Lib.AtoiErrMem
namespace Go.Proofs.YtebfhljamoapjaaDoor
open Go.RowKit
set_option linter.unusedVariables false
set_option linter.unusedSimpArgs false

/-- A new object that nobody writes. -/
theorem Hp.addRo {w : Ref} {ρ : Rho} {L : List Ob} {nx : Nat} {W : World} (h : Hp w ρ L nx W) (o : Ob) (A : Option Addr) (hn : o.n = nx) (ho : o.own = false) (hc : o.c.lt (nx + 1) = true)
    (hok : RoOk w.heap.size (upd ρ nx A) o W) : Hp w (upd ρ nx A) (o :: L) (nx + 1) W := by
  have h1 := h.agree (agree_upd ρ nx A)
  refine ⟨h1.bel, ?_, ?_, ?_, Nat.le_succ_of_le h1.pin.1, h1.pin.2⟩
  · intro o' ho'
    rcases List.mem_cons.1 ho' with rfl | ho'
    · unfold ObOk
      rw [if_neg (by rw [ho]; simp)]
      exact hok
    · exact h1.obj o' ho'
  · exact List.pairwise_cons.2 ⟨fun o' _ hx _ _ => (by rw [ho] at hx; cases hx), h1.dis⟩
  · intro o' ho'
    rcases List.mem_cons.1 ho' with rfl | ho'
    · exact ⟨by omega, hc⟩
    · obtain ⟨a1, a2⟩ := h.lt o' ho'
      refine ⟨by omega, ?_⟩
      cases h5 : o'.c with
      | cs l => rw [h5] at a2; exact ltL_mono (Nat.le_succ _) l a2
      | rows _ _ _ => rfl
section
variable {kp : Bool} {P : Program} {w : Ref} {L : List Ob} {nx : Nat} {k : SV → List Ob → Nat → Prop}
/-- The bytes of a string. -/
theorem EvOp.bytes {env : Env} {cur : Pth} {o : Oper} {t u e : TypeId} {x : Operand} {s : ByteArray} (ht : P.underlying t = some .string) (hu : P.underlying u = some (.slice e)) (he : P.underlying e = some (.int .u8)) (ho : o.op = .convert t u x)
    (hx : evK env cur x (fun v => v = .v (.string s))) (hs : s.size ≤ 1000000) (h : ∀ cap, (bI s).length ≤ cap → cap ≤ 9223372036854775807 → k (.s nx 1 (bI s).length cap) (⟨nx, false, e, 1, cap, .rows Int rU (bI s)⟩ :: L) (nx + 1)) : EvOp kp P w env cur o L nx k := by
  refine ⟨fun ρ G a W hf hg hp => ?_⟩
  obtain ⟨v1, rfl, h1⟩ := evK_sound hx
  have e1 := (h1 ρ G nx a hf hg).1
  have hcv := Lib.run_convert_string_bytes (P := P) W t u e s ht hu he
  have hb := Lib.bytesWorld_below W e s
  have hl := bI_len s
  have hge := grownCap_ge W s.size 0 e
  have hle := grownCap_le_maxLen W s.size 0 e (Nat.le_trans hs (by decide))
  simp only [den] at e1
  refine ⟨.slice (some ⟨W.heap.size, 0, none⟩) s.size (grownCap W s.size 0 e), Lib.bytesWorld W e s, by simp [execOp, ho, e1, hcv], fun _ => hb, upd ρ nx (some ⟨W.heap.size, 0, none⟩), .s nx 1 (bI s).length (grownCap W s.size 0 e), _, nx + 1, by simp [den, upd_same, hl], agree_upd ρ nx _, by omega, by simp [SV.lt, blt_iff], ?_, h _ (by omega) (by simpa [maxLen] using hle)⟩
  refine (hp.step hb).addRo _ _ rfl rfl rfl ?_
  intro _
  refine ⟨W.heap.size, 0, upd_same _ _ _, .inr ⟨_, _, _, Lib.bytesWorld_at_new W e s, fun hm => ?_⟩, fun j y hy => ?_⟩
  · simp at hm
  · have hy2 : (rowC rU (bI s))[j]? = some y := hy
    rw [rowC_bI] at hy2
    have hj : j < s.size := by
      have := (List.getElem?_eq_some_iff.1 hy2).1
      simpa [Lib.strCells] using this
    rw [Nat.zero_add, Lib.bytesWorld_cell W e s j hj, ← hy2]
    simp only [Lib.strCells, List.getElem?_map]
    rw [List.getD_eq_getElem?_getD, List.getElem?_eq_getElem (by simpa using hj)]
    rfl
end
theorem rowC_U : ∀ xs : List Int, rowC rU xs = xs.map (Value.int .u8)
  | [] => rfl
  | y :: r => by
    have := rowC_U r
    unfold rowC at *
    rw [List.flatMap_cons, this]
    rfl
def sLab : ByteArray := ⟨#[108, 97, 98, 101, 108, 115]⟩
theorem hash_s (v : Value) (zs : List Int) (w : World) (hv : RowsIn rU w v zs) (h0 : 0 < zs.length) (hl : zs.length ≤ 1000000) : Con Tryd.prog 17 #[.string sLab, v] w (Ret w (.int .u64 (bytesV sLab zs))) := by
  obtain ⟨A, c, rfl, h1, h2, h3, h4⟩ := hv
  obtain ⟨b, off, rfl, hb, hc⟩ := h4 h0
  exact ⟨bytes_any sLab (by decide) b off c zs w hb (fun k x hx => hc k _ (by
    have e := rowC_U zs
    rw [e, List.getElem?_map, hx]
    rfl)) hl⟩
set_option maxRecDepth 10000 in
theorem labelsround_s (V1 V2 : Value) (l m : List Int) (y : Int) (w : World) (h1 : Ints w V1 l) (h2 : Ints w V2 m) (hy : I64 y) (hm : MaxL w) :
    Con Tryd.prog 4 #[V1, V2, .int .i64 y] w (Ret w (.bool true)) := by
  obtain ⟨A1, c1, rfl, e1, e2⟩ := h1.form
  obtain ⟨A2, c2, rfl, f1, f2⟩ := h2.form
  have hva := set_valid l
  have hvb := set_valid m
  have hza := set_text l
  have hzb := set_text m
  have hla := set_lbs l
  have hlb := set_lbs m
  have hna : (setL l).length ≤ 6 := setN_len l 6
  refine enter tabOk mixed Tryd.func4 rfl Tryd.ntmps4 Tryd.results4 [.s 0 1 l.length c1, .s 1 1 m.length c2, .v (.int .i64 y)] (fun n => if n = 0 then A1 else A2) [⟨0, false, 3, 1, c1, .rows Int rI (l)⟩, ⟨1, false, 3, 1, c2, .rows Int rI (m)⟩] 2 rfl rfl (.ro (.ro (hp0 _ _ _) _ rfl rfl rfl (ro_ints h2 rfl _)) _ rfl rfl rfl (ro_ints h1 rfl _)) ?_
  ((conv=>whnf);(repeat(refine And.intro ?_ ?_;(focus((first|omega|exact⟨rfl,True.intro⟩|exact⟨rfl,rfl,True.intro⟩|rfl|(simp only[List.length_set];first|omega|(refine⟨?_,?_⟩<;>omega)|(refine⟨?_,?_,?_⟩<;>omega))|(intro hg;(try simp only[bB]at hg);first|omega|(refine⟨?_,?_⟩<;>omega)|(refine⟨?_,?_,?_⟩<;>first|omega|(show _<_;(try simp only[List.length_set]);omega)|exact leT rfl))|(refine⟨?_,?_⟩<;>omega)|(refine⟨?_,?_,?_⟩<;>first|omega|(show _<_;(try simp only[List.length_set]);omega)|exact leT rfl)|(simp only[show rI.d=(0:Int)from rfl];omega));done));(conv=>whnf))))
  refine EvCall.rows (R := rL) (ty := 42) (xs := setL l) Tryd.call8 (fun ρ W hp => set_s _ l W (hp.ints (n := 0) rfl e1 e2 h1.2)) (fun ca ha1 ha2 => ?_)
  generalize setL l = a at *
  ((conv=>whnf);(repeat(refine And.intro ?_ ?_;(focus((first|omega|exact⟨rfl,True.intro⟩|exact⟨rfl,rfl,True.intro⟩|rfl|(simp only[List.length_set];first|omega|(refine⟨?_,?_⟩<;>omega)|(refine⟨?_,?_,?_⟩<;>omega))|(intro hg;(try simp only[bB]at hg);first|omega|(refine⟨?_,?_⟩<;>omega)|(refine⟨?_,?_,?_⟩<;>first|omega|(show _<_;(try simp only[List.length_set]);omega)|exact leT rfl))|(refine⟨?_,?_⟩<;>omega)|(refine⟨?_,?_,?_⟩<;>first|omega|(show _<_;(try simp only[List.length_set]);omega)|exact leT rfl)|(simp only[show rI.d=(0:Int)from rfl];omega));done));(conv=>whnf))))
  refine EvCall.rows (R := rL) (ty := 42) (xs := setL m) Tryd.call8 (fun ρ W hp => set_s _ m W (hp.ints (n := 1) rfl f1 f2 h2.2)) (fun cb hb1 hb2 => ?_)
  generalize setL m = b at *
  obtain ⟨k, hk⟩ : ∃ k : Nat, arnd y ((a.length : Int) + 1) = (k : Int) := ⟨(arnd y ((a.length : Int) + 1)).toNat, by have := arnd_nn y ((a.length : Int) + 1) (by omega); omega⟩
  have hkl : k ≤ a.length := by
    have := arnd_lt y ((a.length : Int) + 1) (by omega)
    omega
  have hdl : (a.drop k).length = a.length - k := by simp
  have htl : (a.take k).length = k := by simp; omega
  have hpm := turn_perm a k
  have hnew := turn_new hva hpm
  have hll := perm_lbs hla hpm
  have hlt : (a.drop k ++ a.take k).length = a.length := hpm.length_eq
  ((conv=>whnf);(repeat(refine And.intro ?_ ?_;(focus((first|omega|exact⟨rfl,True.intro⟩|exact⟨rfl,rfl,True.intro⟩|rfl|(simp only[List.length_set];first|omega|(refine⟨?_,?_⟩<;>omega)|(refine⟨?_,?_,?_⟩<;>omega))|(intro hg;(try simp only[bB]at hg);first|omega|(refine⟨?_,?_⟩<;>omega)|(refine⟨?_,?_,?_⟩<;>first|omega|(show _<_;(try simp only[List.length_set]);omega)|exact leT rfl))|(refine⟨?_,?_⟩<;>omega)|(refine⟨?_,?_,?_⟩<;>first|omega|(show _<_;(try simp only[List.length_set]);omega)|exact leT rfl)|(simp only[show rI.d=(0:Int)from rfl];omega));done));(conv=>whnf))))
  refine EvCall.plain Tryd.call12 (.v (.int .i64 (k : Int))) rfl (fun ρ W hp => by
    have := around_s y ((a.length : Int) + 1) W hy (by omega) (by omega)
    rw [hk] at this
    exact this) ?_
  ((conv=>whnf);(repeat(refine And.intro ?_ ?_;(focus((first|omega|exact⟨rfl,True.intro⟩|exact⟨rfl,rfl,True.intro⟩|rfl|(simp only[List.length_set];first|omega|(refine⟨?_,?_⟩<;>omega)|(refine⟨?_,?_,?_⟩<;>omega))|(intro hg;(try simp only[bB]at hg);first|omega|(refine⟨?_,?_⟩<;>omega)|(refine⟨?_,?_,?_⟩<;>first|omega|(show _<_;(try simp only[List.length_set]);omega)|exact leT rfl))|(refine⟨?_,?_⟩<;>omega)|(refine⟨?_,?_,?_⟩<;>first|omega|(show _<_;(try simp only[List.length_set]);omega)|exact leT rfl)|(simp only[show rI.d=(0:Int)from rfl];omega));done));(conv=>whnf))))
  refine EvBi.append_nil (R := rL) tyok25 rfl tyok42 rfl (by decide) rfl (a.drop k) (fun ρ W hp => ?_) (by show _ * 32 ≤ _; omega) (by omega) (fun cc hc1 hc2 => ?_)
  · have := hp.part (R := rL) (n := 2) (xs := a) (c := ca) rfl (by decide) ha1 ha2 k a.length hkl (Nat.le_refl _)
    rw [List.take_of_length_le (by omega)] at this
    exact this
  ((conv=>whnf);(repeat(refine And.intro ?_ ?_;(focus((first|omega|exact⟨rfl,True.intro⟩|exact⟨rfl,rfl,True.intro⟩|rfl|(simp only[List.length_set];first|omega|(refine⟨?_,?_⟩<;>omega)|(refine⟨?_,?_,?_⟩<;>omega))|(intro hg;(try simp only[bB]at hg);first|omega|(refine⟨?_,?_⟩<;>omega)|(refine⟨?_,?_,?_⟩<;>first|omega|(show _<_;(try simp only[List.length_set]);omega)|exact leT rfl))|(refine⟨?_,?_⟩<;>omega)|(refine⟨?_,?_,?_⟩<;>first|omega|(show _<_;(try simp only[List.length_set]);omega)|exact leT rfl)|(simp only[show rI.d=(0:Int)from rfl];omega));done));(conv=>whnf))))
  refine EvBi.append (R := rL) tyok25 rfl tyok42 rfl (by decide) rfl rfl rfl hc1 (a.take k) (fun ρ W hp => ?_) (by show _ * 32 ≤ _; omega) (by omega) (fun cd hd1 hd2 => ?_)
  · have := hp.rowsIn (R := rL) (n := 2) (c := ca) rfl (by decide) ha1 ha2 2
    exact this.cut k ca hkl (by omega) (by omega)
  rw [← List.length_append] at hd1 ⊢
  generalize a.drop k ++ a.take k = t at *
  ((conv=>whnf);(repeat(refine And.intro ?_ ?_;(focus((first|omega|exact⟨rfl,True.intro⟩|exact⟨rfl,rfl,True.intro⟩|rfl|(simp only[List.length_set];first|omega|(refine⟨?_,?_⟩<;>omega)|(refine⟨?_,?_,?_⟩<;>omega))|(intro hg;(try simp only[bB]at hg);first|omega|(refine⟨?_,?_⟩<;>omega)|(refine⟨?_,?_,?_⟩<;>first|omega|(show _<_;(try simp only[List.length_set]);omega)|exact leT rfl))|(refine⟨?_,?_⟩<;>omega)|(refine⟨?_,?_,?_⟩<;>first|omega|(show _<_;(try simp only[List.length_set]);omega)|exact leT rfl)|(simp only[show rI.d=(0:Int)from rfl];omega));done));(conv=>whnf))))
  refine EvCall.rowsE (R := rL) (ty := 42) (xs := (newP t).1) (z := (newP t).2) Tryd.call13 (fun ρ W hp => new_s _ t W (hp.rowsIn (R := rL) (n := 5) (c := cd) rfl (by decide) hd1 hd2 2) hll) (fun ce he1 he2 => ?_)
  rw [hnew] at he1 ⊢
  ((conv=>whnf);(repeat(refine And.intro ?_ ?_;(focus((first|omega|exact⟨rfl,True.intro⟩|exact⟨rfl,rfl,True.intro⟩|rfl|(simp only[List.length_set];first|omega|(refine⟨?_,?_⟩<;>omega)|(refine⟨?_,?_,?_⟩<;>omega))|(intro hg;(try simp only[bB]at hg);first|omega|(refine⟨?_,?_⟩<;>omega)|(refine⟨?_,?_,?_⟩<;>first|omega|(show _<_;(try simp only[List.length_set]);omega)|exact leT rfl))|(refine⟨?_,?_⟩<;>omega)|(refine⟨?_,?_,?_⟩<;>first|omega|(show _<_;(try simp only[List.length_set]);omega)|exact leT rfl)|(simp only[show rI.d=(0:Int)from rfl];omega));done));(conv=>whnf))))
  refine EvCall.plain Tryd.call15 (.v (.string (textR a))) rfl (fun ρ W hp => text_s _ a W (hp.rowsIn (R := rL) (n := 2) (c := ca) rfl (by decide) ha1 ha2 2) hla) ?_
  ((conv=>whnf);(repeat(refine And.intro ?_ ?_;(focus((first|omega|exact⟨rfl,True.intro⟩|exact⟨rfl,rfl,True.intro⟩|rfl|(simp only[List.length_set];first|omega|(refine⟨?_,?_⟩<;>omega)|(refine⟨?_,?_,?_⟩<;>omega))|(intro hg;(try simp only[bB]at hg);first|omega|(refine⟨?_,?_⟩<;>omega)|(refine⟨?_,?_,?_⟩<;>first|omega|(show _<_;(try simp only[List.length_set]);omega)|exact leT rfl))|(refine⟨?_,?_⟩<;>omega)|(refine⟨?_,?_,?_⟩<;>first|omega|(show _<_;(try simp only[List.length_set]);omega)|exact leT rfl)|(simp only[show rI.d=(0:Int)from rfl];omega));done));(conv=>whnf))))
  refine EvCall.rowsE (R := rL) (ty := 42) (xs := (parseR (textR a)).1) (z := (parseR (textR a)).2) Tryd.call14 (fun ρ W hp => parse_s (textR a) W (by omega) (hm.below hp.bel)) (fun cf hf1 hf2 => ?_)
  rw [parseR_yes hva rfl] at hf1 ⊢
  ((conv=>whnf);(repeat(refine And.intro ?_ ?_;(focus((first|omega|exact⟨rfl,True.intro⟩|exact⟨rfl,rfl,True.intro⟩|rfl|(simp only[List.length_set];first|omega|(refine⟨?_,?_⟩<;>omega)|(refine⟨?_,?_,?_⟩<;>omega))|(intro hg;(try simp only[bB]at hg);first|omega|(refine⟨?_,?_⟩<;>omega)|(refine⟨?_,?_,?_⟩<;>first|omega|(show _<_;(try simp only[List.length_set]);omega)|exact leT rfl))|(refine⟨?_,?_⟩<;>omega)|(refine⟨?_,?_,?_⟩<;>first|omega|(show _<_;(try simp only[List.length_set]);omega)|exact leT rfl)|(simp only[show rI.d=(0:Int)from rfl];omega));done));(conv=>whnf))))
  refine EvCallC.plain Tryd.call16 (.v (.bool true)) rfl (fun hc ρ W hp => by
    have := same_s _ _ a a W (hp.rowsIn (R := rL) (n := 2) (c := ca) rfl (by decide) ha1 ha2 2) (hp.rowsIn (R := rL) (n := 6) (c := ce) (xs := a) rfl (by decide) he1 he2 2)
    rw [decide_eq_true rfl] at this
    exact this) ?_
  ((conv=>whnf);(repeat(refine And.intro ?_ ?_;(focus((first|omega|exact⟨rfl,True.intro⟩|exact⟨rfl,rfl,True.intro⟩|rfl|(simp only[List.length_set];first|omega|(refine⟨?_,?_⟩<;>omega)|(refine⟨?_,?_,?_⟩<;>omega))|(intro hg;(try simp only[bB]at hg);first|omega|(refine⟨?_,?_⟩<;>omega)|(refine⟨?_,?_,?_⟩<;>first|omega|(show _<_;(try simp only[List.length_set]);omega)|exact leT rfl))|(refine⟨?_,?_⟩<;>omega)|(refine⟨?_,?_,?_⟩<;>first|omega|(show _<_;(try simp only[List.length_set]);omega)|exact leT rfl)|(simp only[show rI.d=(0:Int)from rfl];omega));done));(conv=>whnf))))
  refine EvCallC.plain Tryd.call16 (.v (.bool true)) rfl (fun hc ρ W hp => by
    have := same_s _ _ a a W (hp.rowsIn (R := rL) (n := 2) (c := ca) rfl (by decide) ha1 ha2 2) (hp.rowsIn (R := rL) (n := 7) (c := cf) (xs := a) rfl (by decide) hf1 hf2 2)
    rw [decide_eq_true rfl] at this
    exact this) ?_
  ((conv=>whnf);(repeat(refine And.intro ?_ ?_;(focus((first|omega|exact⟨rfl,True.intro⟩|exact⟨rfl,rfl,True.intro⟩|rfl|(simp only[List.length_set];first|omega|(refine⟨?_,?_⟩<;>omega)|(refine⟨?_,?_,?_⟩<;>omega))|(intro hg;(try simp only[bB]at hg);first|omega|(refine⟨?_,?_⟩<;>omega)|(refine⟨?_,?_,?_⟩<;>first|omega|(show _<_;(try simp only[List.length_set]);omega)|exact leT rfl))|(refine⟨?_,?_⟩<;>omega)|(refine⟨?_,?_,?_⟩<;>first|omega|(show _<_;(try simp only[List.length_set]);omega)|exact leT rfl)|(simp only[show rI.d=(0:Int)from rfl];omega));done));(conv=>whnf))))
  refine EvIf.neg rfl ?_
  ((conv=>whnf);(repeat(refine And.intro ?_ ?_;(focus((first|omega|exact⟨rfl,True.intro⟩|exact⟨rfl,rfl,True.intro⟩|rfl|(simp only[List.length_set];first|omega|(refine⟨?_,?_⟩<;>omega)|(refine⟨?_,?_,?_⟩<;>omega))|(intro hg;(try simp only[bB]at hg);first|omega|(refine⟨?_,?_⟩<;>omega)|(refine⟨?_,?_,?_⟩<;>first|omega|(show _<_;(try simp only[List.length_set]);omega)|exact leT rfl))|(refine⟨?_,?_⟩<;>omega)|(refine⟨?_,?_,?_⟩<;>first|omega|(show _<_;(try simp only[List.length_set]);omega)|exact leT rfl)|(simp only[show rI.d=(0:Int)from rfl];omega));done));(conv=>whnf))))
  refine EvCall.plain Tryd.call16 (.v (.bool (decide (a = b)))) rfl (fun ρ W hp => same_s _ _ a b W (hp.rowsIn (R := rL) (n := 2) (c := ca) rfl (by decide) ha1 ha2 2) (hp.rowsIn (R := rL) (n := 3) (c := cb) rfl (by decide) hb1 hb2 2)) ?_
  have hab : textR a = textR b → a = b := text_inj hva hvb
  have hpa : 0 < (bI (textR a)).length := by
    rw [bI_len, text_size rfl]
    omega
  have hpb : 0 < (bI (textR b)).length := by
    rw [bI_len, text_size rfl]
    omega
  have hxa : (bI (textR a)).length ≤ 1000000 := by rw [bI_len]; omega
  have hxb : (bI (textR b)).length ≤ 1000000 := by rw [bI_len]; omega
  ((conv=>whnf);(repeat(refine And.intro ?_ ?_;(focus((first|omega|exact⟨rfl,True.intro⟩|exact⟨rfl,rfl,True.intro⟩|rfl|(simp only[List.length_set];first|omega|(refine⟨?_,?_⟩<;>omega)|(refine⟨?_,?_,?_⟩<;>omega))|(intro hg;(try simp only[bB]at hg);first|omega|(refine⟨?_,?_⟩<;>omega)|(refine⟨?_,?_,?_⟩<;>first|omega|(show _<_;(try simp only[List.length_set]);omega)|exact leT rfl))|(refine⟨?_,?_⟩<;>omega)|(refine⟨?_,?_,?_⟩<;>first|omega|(show _<_;(try simp only[List.length_set]);omega)|exact leT rfl)|(simp only[show rI.d=(0:Int)from rfl];omega));done));(conv=>whnf))))
  refine EvCall.plain Tryd.call15 (.v (.string (textR a))) rfl (fun ρ W hp => text_s _ a W (hp.rowsIn (R := rL) (n := 2) (c := ca) rfl (by decide) ha1 ha2 2) hla) ?_
  ((conv=>whnf);(repeat(refine And.intro ?_ ?_;(focus((first|omega|exact⟨rfl,True.intro⟩|exact⟨rfl,rfl,True.intro⟩|rfl|(simp only[List.length_set];first|omega|(refine⟨?_,?_⟩<;>omega)|(refine⟨?_,?_,?_⟩<;>omega))|(intro hg;(try simp only[bB]at hg);first|omega|(refine⟨?_,?_⟩<;>omega)|(refine⟨?_,?_,?_⟩<;>first|omega|(show _<_;(try simp only[List.length_set]);omega)|exact leT rfl))|(refine⟨?_,?_⟩<;>omega)|(refine⟨?_,?_,?_⟩<;>first|omega|(show _<_;(try simp only[List.length_set]);omega)|exact leT rfl)|(simp only[show rI.d=(0:Int)from rfl];omega));done));(conv=>whnf))))
  refine EvOp.bytes (s := textR a) Tryd.underlying9 Tryd.underlying39 Tryd.underlying5 rfl rfl (by omega) (fun cg hg1 hg2 => ?_)
  ((conv=>whnf);(repeat(refine And.intro ?_ ?_;(focus((first|omega|exact⟨rfl,True.intro⟩|exact⟨rfl,rfl,True.intro⟩|rfl|(simp only[List.length_set];first|omega|(refine⟨?_,?_⟩<;>omega)|(refine⟨?_,?_,?_⟩<;>omega))|(intro hg;(try simp only[bB]at hg);first|omega|(refine⟨?_,?_⟩<;>omega)|(refine⟨?_,?_,?_⟩<;>first|omega|(show _<_;(try simp only[List.length_set]);omega)|exact leT rfl))|(refine⟨?_,?_⟩<;>omega)|(refine⟨?_,?_,?_⟩<;>first|omega|(show _<_;(try simp only[List.length_set]);omega)|exact leT rfl)|(simp only[show rI.d=(0:Int)from rfl];omega));done));(conv=>whnf))))
  refine EvCall.plain Tryd.call17 (.v (.int .u64 (bytesV sLab (bI (textR a))))) rfl (fun ρ W hp => hash_s _ _ W (hp.rowsIn (R := rU) (n := 8) (c := cg) rfl (by decide) hg1 hg2 1) hpa hxa) ?_
  ((conv=>whnf);(repeat(refine And.intro ?_ ?_;(focus((first|omega|exact⟨rfl,True.intro⟩|exact⟨rfl,rfl,True.intro⟩|rfl|(simp only[List.length_set];first|omega|(refine⟨?_,?_⟩<;>omega)|(refine⟨?_,?_,?_⟩<;>omega))|(intro hg;(try simp only[bB]at hg);first|omega|(refine⟨?_,?_⟩<;>omega)|(refine⟨?_,?_,?_⟩<;>first|omega|(show _<_;(try simp only[List.length_set]);omega)|exact leT rfl))|(refine⟨?_,?_⟩<;>omega)|(refine⟨?_,?_,?_⟩<;>first|omega|(show _<_;(try simp only[List.length_set]);omega)|exact leT rfl)|(simp only[show rI.d=(0:Int)from rfl];omega));done));(conv=>whnf))))
  refine EvCall.plain Tryd.call15 (.v (.string (textR b))) rfl (fun ρ W hp => text_s _ b W (hp.rowsIn (R := rL) (n := 3) (c := cb) rfl (by decide) hb1 hb2 2) hlb) ?_
  ((conv=>whnf);(repeat(refine And.intro ?_ ?_;(focus((first|omega|exact⟨rfl,True.intro⟩|exact⟨rfl,rfl,True.intro⟩|rfl|(simp only[List.length_set];first|omega|(refine⟨?_,?_⟩<;>omega)|(refine⟨?_,?_,?_⟩<;>omega))|(intro hg;(try simp only[bB]at hg);first|omega|(refine⟨?_,?_⟩<;>omega)|(refine⟨?_,?_,?_⟩<;>first|omega|(show _<_;(try simp only[List.length_set]);omega)|exact leT rfl))|(refine⟨?_,?_⟩<;>omega)|(refine⟨?_,?_,?_⟩<;>first|omega|(show _<_;(try simp only[List.length_set]);omega)|exact leT rfl)|(simp only[show rI.d=(0:Int)from rfl];omega));done));(conv=>whnf))))
  refine EvOp.bytes (s := textR b) Tryd.underlying9 Tryd.underlying39 Tryd.underlying5 rfl rfl (by omega) (fun ch hh1 hh2 => ?_)
  ((conv=>whnf);(repeat(refine And.intro ?_ ?_;(focus((first|omega|exact⟨rfl,True.intro⟩|exact⟨rfl,rfl,True.intro⟩|rfl|(simp only[List.length_set];first|omega|(refine⟨?_,?_⟩<;>omega)|(refine⟨?_,?_,?_⟩<;>omega))|(intro hg;(try simp only[bB]at hg);first|omega|(refine⟨?_,?_⟩<;>omega)|(refine⟨?_,?_,?_⟩<;>first|omega|(show _<_;(try simp only[List.length_set]);omega)|exact leT rfl))|(refine⟨?_,?_⟩<;>omega)|(refine⟨?_,?_,?_⟩<;>first|omega|(show _<_;(try simp only[List.length_set]);omega)|exact leT rfl)|(simp only[show rI.d=(0:Int)from rfl];omega));done));(conv=>whnf))))
  refine EvCall.plain Tryd.call17 (.v (.int .u64 (bytesV sLab (bI (textR b))))) rfl (fun ρ W hp => hash_s _ _ W (hp.rowsIn (R := rU) (n := 9) (c := ch) rfl (by decide) hh1 hh2 1) hpb hxb) ?_
  ((conv=>whnf);(repeat(refine And.intro ?_ ?_;(focus((first|omega|exact⟨rfl,True.intro⟩|exact⟨rfl,rfl,True.intro⟩|rfl|(simp only[List.length_set];first|omega|(refine⟨?_,?_⟩<;>omega)|(refine⟨?_,?_,?_⟩<;>omega))|(intro hg;(try simp only[bB]at hg);first|omega|(refine⟨?_,?_⟩<;>omega)|(refine⟨?_,?_,?_⟩<;>first|omega|(show _<_;(try simp only[List.length_set]);omega)|exact leT rfl))|(refine⟨?_,?_⟩<;>omega)|(refine⟨?_,?_,?_⟩<;>first|omega|(show _<_;(try simp only[List.length_set]);omega)|exact leT rfl)|(simp only[show rI.d=(0:Int)from rfl];omega));done));(conv=>whnf))))
  refine EvCall.plain Tryd.call15 (.v (.string (textR a))) rfl (fun ρ W hp => text_s _ a W (hp.rowsIn (R := rL) (n := 2) (c := ca) rfl (by decide) ha1 ha2 2) hla) ?_
  ((conv=>whnf);(repeat(refine And.intro ?_ ?_;(focus((first|omega|exact⟨rfl,True.intro⟩|exact⟨rfl,rfl,True.intro⟩|rfl|(simp only[List.length_set];first|omega|(refine⟨?_,?_⟩<;>omega)|(refine⟨?_,?_,?_⟩<;>omega))|(intro hg;(try simp only[bB]at hg);first|omega|(refine⟨?_,?_⟩<;>omega)|(refine⟨?_,?_,?_⟩<;>first|omega|(show _<_;(try simp only[List.length_set]);omega)|exact leT rfl))|(refine⟨?_,?_⟩<;>omega)|(refine⟨?_,?_,?_⟩<;>first|omega|(show _<_;(try simp only[List.length_set]);omega)|exact leT rfl)|(simp only[show rI.d=(0:Int)from rfl];omega));done));(conv=>whnf))))
  refine EvCall.plain Tryd.call15 (.v (.string (textR b))) rfl (fun ρ W hp => text_s _ b W (hp.rowsIn (R := rL) (n := 3) (c := cb) rfl (by decide) hb1 hb2 2) hlb) ?_
  ((conv=>whnf);(repeat(refine And.intro ?_ ?_;(focus((first|omega|exact⟨rfl,True.intro⟩|exact⟨rfl,rfl,True.intro⟩|rfl|(simp only[List.length_set];first|omega|(refine⟨?_,?_⟩<;>omega)|(refine⟨?_,?_,?_⟩<;>omega))|(intro hg;(try simp only[bB]at hg);first|omega|(refine⟨?_,?_⟩<;>omega)|(refine⟨?_,?_,?_⟩<;>first|omega|(show _<_;(try simp only[List.length_set]);omega)|exact leT rfl))|(refine⟨?_,?_⟩<;>omega)|(refine⟨?_,?_,?_⟩<;>first|omega|(show _<_;(try simp only[List.length_set]);omega)|exact leT rfl)|(simp only[show rI.d=(0:Int)from rfl];omega));done));(conv=>whnf))))
  refine EvCallC.plain Tryd.call15 (.v (.string (textR a))) rfl (fun hc ρ W hp => text_s _ a W (hp.rowsIn (R := rL) (n := 6) (c := ce) (xs := a) rfl (by decide) he1 he2 2) hla) ?_
  ((conv=>whnf);(repeat(refine And.intro ?_ ?_;(focus((first|omega|exact⟨rfl,True.intro⟩|exact⟨rfl,rfl,True.intro⟩|rfl|(simp only[List.length_set];first|omega|(refine⟨?_,?_⟩<;>omega)|(refine⟨?_,?_,?_⟩<;>omega))|(intro hg;(try simp only[bB]at hg);first|omega|(refine⟨?_,?_⟩<;>omega)|(refine⟨?_,?_,?_⟩<;>first|omega|(show _<_;(try simp only[List.length_set]);omega)|exact leT rfl))|(refine⟨?_,?_⟩<;>omega)|(refine⟨?_,?_,?_⟩<;>first|omega|(show _<_;(try simp only[List.length_set]);omega)|exact leT rfl)|(simp only[show rI.d=(0:Int)from rfl];omega));done));(conv=>whnf))))
  have hG : (((textR a).toList == (textR b).toList) == decide (a = b) && (!decide (a = b) || decide (bytesV sLab (bI (textR a)) = bytesV sLab (bI (textR b))))) = true := by
    rw [tl_eq]
    by_cases hE : a = b
    · subst hE
      simp
    · have h3 : ¬ textR a = textR b := fun h => hE (hab h)
      simp [hE, h3]
  refine ⟨hG, ?_⟩
  ((conv=>whnf);(repeat(refine And.intro ?_ ?_;(focus((first|omega|exact⟨rfl,True.intro⟩|exact⟨rfl,rfl,True.intro⟩|rfl|(simp only[List.length_set];first|omega|(refine⟨?_,?_⟩<;>omega)|(refine⟨?_,?_,?_⟩<;>omega))|(intro hg;(try simp only[bB]at hg);first|omega|(refine⟨?_,?_⟩<;>omega)|(refine⟨?_,?_,?_⟩<;>first|omega|(show _<_;(try simp only[List.length_set]);omega)|exact leT rfl))|(refine⟨?_,?_⟩<;>omega)|(refine⟨?_,?_,?_⟩<;>first|omega|(show _<_;(try simp only[List.length_set]);omega)|exact leT rfl)|(simp only[show rI.d=(0:Int)from rfl];omega));done));(conv=>whnf))))
  refine EvOp.bytes (s := textR a) Tryd.underlying9 Tryd.underlying39 Tryd.underlying5 rfl rfl (by omega) (fun ci hi1 hi2 => ?_)
  ((conv=>whnf);(repeat(refine And.intro ?_ ?_;(focus((first|omega|exact⟨rfl,True.intro⟩|exact⟨rfl,rfl,True.intro⟩|rfl|(simp only[List.length_set];first|omega|(refine⟨?_,?_⟩<;>omega)|(refine⟨?_,?_,?_⟩<;>omega))|(intro hg;(try simp only[bB]at hg);first|omega|(refine⟨?_,?_⟩<;>omega)|(refine⟨?_,?_,?_⟩<;>first|omega|(show _<_;(try simp only[List.length_set]);omega)|exact leT rfl))|(refine⟨?_,?_⟩<;>omega)|(refine⟨?_,?_,?_⟩<;>first|omega|(show _<_;(try simp only[List.length_set]);omega)|exact leT rfl)|(simp only[show rI.d=(0:Int)from rfl];omega));done));(conv=>whnf))))
  refine EvCallC.plain Tryd.call17 (.v (.int .u64 (bytesV sLab (bI (textR a))))) rfl (fun hc ρ W hp => hash_s _ _ W (hp.rowsIn (R := rU) (n := 10) (c := ci) rfl (by decide) hi1 hi2 1) hpa hxa) ?_
  ((conv=>whnf);(repeat(refine And.intro ?_ ?_;(focus((first|omega|exact⟨rfl,True.intro⟩|exact⟨rfl,rfl,True.intro⟩|rfl|(simp only[List.length_set];first|omega|(refine⟨?_,?_⟩<;>omega)|(refine⟨?_,?_,?_⟩<;>omega))|(intro hg;(try simp only[bB]at hg);first|omega|(refine⟨?_,?_⟩<;>omega)|(refine⟨?_,?_,?_⟩<;>first|omega|(show _<_;(try simp only[List.length_set]);omega)|exact leT rfl))|(refine⟨?_,?_⟩<;>omega)|(refine⟨?_,?_,?_⟩<;>first|omega|(show _<_;(try simp only[List.length_set]);omega)|exact leT rfl)|(simp only[show rI.d=(0:Int)from rfl];omega));done));(conv=>whnf))))
  refine EvCallC.plain Tryd.call11 (.v (.bool true)) rfl (fun hc ρ W hp => lives5_s W) ?_
  ((conv=>whnf);(repeat(refine And.intro ?_ ?_;(focus((first|omega|exact⟨rfl,True.intro⟩|exact⟨rfl,rfl,True.intro⟩|rfl|(simp only[List.length_set];first|omega|(refine⟨?_,?_⟩<;>omega)|(refine⟨?_,?_,?_⟩<;>omega))|(intro hg;(try simp only[bB]at hg);first|omega|(refine⟨?_,?_⟩<;>omega)|(refine⟨?_,?_,?_⟩<;>first|omega|(show _<_;(try simp only[List.length_set]);omega)|exact leT rfl))|(refine⟨?_,?_⟩<;>omega)|(refine⟨?_,?_,?_⟩<;>first|omega|(show _<_;(try simp only[List.length_set]);omega)|exact leT rfl)|(simp only[show rI.d=(0:Int)from rfl];omega));done));(conv=>whnf))))
  exact EvRet.ret (fun ρ => by simp [den, hG])
theorem walk_LabelsRound (w : World) (V1 V2 : Value) (l m : List Int) (y : Int) (h1 : Ints w V1 l) (h2 : Ints w V2 m) (hy : I64 y) (hm : MaxL w) :
    Calls Tryd.prog 4 #[V1, V2, .int .i64 y] w fun e w' => e = .returned (.bool true) ∧ Below w.heap.size w w' := (labelsround_s V1 V2 l m y w h1 h2 hy hm).out
end Go.Proofs.YtebfhljamoapjaaDoor
