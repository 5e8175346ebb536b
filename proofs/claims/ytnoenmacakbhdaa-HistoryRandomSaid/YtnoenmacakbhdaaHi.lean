
/- The reference's Words, mix and Sum at one label, walked. -/
import Derived.Test.YtnoenmacakbhdaaHv
import Derived.Lib.ConvBytes
import Derived.Lib.AtoiErrMem
namespace Go.Proofs.Ytnoenmacakbhdaa
open Go.RowKit
set_option linter.unusedVariables false
set_option linter.unusedSimpArgs false

/-- A byte as an element. -/
def ofU (cs : List Value) : Option Int :=
  match cs with
  | [.int .u8 z] => some z
  | _ => none
theorem ofU_law (cs : List Value) (x : Int) (h : ofU cs = some x) : [Value.int .u8 x] = cs := by
  unfold ofU at h
  split at h
  · simp at h
    subst h
    rfl
  · cases h
def rU : RowS Int := { cols := [fun z => .int .u8 z], d := 0, of := ofU, law := fun cs x h => ofU_law cs x h, one := fun x f hf => by simp at hf; subst hf; rfl }
/-- A word as an element. -/
def ofW (cs : List Value) : Option Int :=
  match cs with
  | [.int .u64 z] => some z
  | _ => none
theorem ofW_law (cs : List Value) (x : Int) (h : ofW cs = some x) : [Value.int .u64 x] = cs := by
  unfold ofW at h
  split at h
  · simp at h
    subst h
    rfl
  · cases h
def rW : RowS Int := { cols := [fun z => .int .u64 z], d := 0, of := ofW, law := fun cs x h => ofW_law cs x h, one := fun x f hf => by simp at hf; subst hf; rfl }
def hBytes : List Int := [104, 105, 115, 116, 111, 114, 121]
def hWord : Int := 34184295202646376
theorem words_hist : wordsL sHist = [hWord] := by decide +kernel
set_option maxHeartbeats 1000000 in
set_option maxRecDepth 20000 in
theorem words_s (v : Value) (w : World) (hv : RowsIn rU w v hBytes) : Con Try.prog 106 #[v] w (RetRows rW 108 w [hWord]) := by
  obtain ⟨A, c, rfl, e1, e2⟩ := hv.form
  have hL : hBytes.length = 7 := rfl
  refine enter tabOk mixed Try.func106 rfl Try.ntmps106 Try.results106 [.s 0 1 hBytes.length c] (fun _ => A) [⟨0, false, 5, 1, c, .rows Int rU hBytes⟩] 1 rfl rfl (.ro (hp0 _ _ _) _ rfl rfl rfl (ro_rows hv rfl _)) ?_
  ((conv=>whnf);repeat(refine And.intro (by omega) ?_;(conv=>whnf)))
  refine EvLoop.rounds 2 ?_
  ((conv=>whnf);repeat(refine And.intro (by omega) ?_;(conv=>whnf)))
  refine EvIf.pos rfl ?_
  ((conv=>whnf);repeat(refine And.intro (by omega) ?_;(conv=>whnf)))
  refine EvLoop.rounds 8 ?_
  ((conv=>whnf);repeat(refine And.intro (by omega) ?_;(conv=>whnf)))
  refine EvIf.pos rfl ?_
  ((conv=>whnf);(repeat(refine And.intro ?_ ?_;(focus((first|omega|exact⟨rfl,True.intro⟩|exact⟨rfl,rfl,True.intro⟩|rfl|(simp only[List.length_set];first|omega|(refine⟨?_,?_⟩<;>omega)|(refine⟨?_,?_,?_⟩<;>omega))|(intro hg;(try simp only[bB]at hg);first|omega|(refine⟨?_,?_⟩<;>omega)|(refine⟨?_,?_,?_⟩<;>first|omega|(show _<_;(try simp only[List.length_set]);omega)|exact leT rfl))|(refine⟨?_,?_⟩<;>omega)|(refine⟨?_,?_,?_⟩<;>first|omega|(show _<_;(try simp only[List.length_set]);omega)|exact leT rfl)|(simp only[show rI.d=(0:Int)from rfl];omega));done));(conv=>whnf))))
  refine EvIf.pos rfl ?_
  ((conv=>whnf);(repeat(refine And.intro ?_ ?_;(focus((first|omega|exact⟨rfl,True.intro⟩|exact⟨rfl,rfl,True.intro⟩|rfl|(simp only[List.length_set];first|omega|(refine⟨?_,?_⟩<;>omega)|(refine⟨?_,?_,?_⟩<;>omega))|(intro hg;(try simp only[bB]at hg);first|omega|(refine⟨?_,?_⟩<;>omega)|(refine⟨?_,?_,?_⟩<;>first|omega|(show _<_;(try simp only[List.length_set]);omega)|exact leT rfl))|(refine⟨?_,?_⟩<;>omega)|(refine⟨?_,?_,?_⟩<;>first|omega|(show _<_;(try simp only[List.length_set]);omega)|exact leT rfl)|(simp only[show rI.d=(0:Int)from rfl];omega));done));(conv=>whnf))))
  refine EvIf.pos rfl ?_
  ((conv=>whnf);(repeat(refine And.intro ?_ ?_;(focus((first|omega|exact⟨rfl,True.intro⟩|exact⟨rfl,rfl,True.intro⟩|rfl|(simp only[List.length_set];first|omega|(refine⟨?_,?_⟩<;>omega)|(refine⟨?_,?_,?_⟩<;>omega))|(intro hg;(try simp only[bB]at hg);first|omega|(refine⟨?_,?_⟩<;>omega)|(refine⟨?_,?_,?_⟩<;>first|omega|(show _<_;(try simp only[List.length_set]);omega)|exact leT rfl))|(refine⟨?_,?_⟩<;>omega)|(refine⟨?_,?_,?_⟩<;>first|omega|(show _<_;(try simp only[List.length_set]);omega)|exact leT rfl)|(simp only[show rI.d=(0:Int)from rfl];omega));done));(conv=>whnf))))
  refine EvIf.pos rfl ?_
  ((conv=>whnf);(repeat(refine And.intro ?_ ?_;(focus((first|omega|exact⟨rfl,True.intro⟩|exact⟨rfl,rfl,True.intro⟩|rfl|(simp only[List.length_set];first|omega|(refine⟨?_,?_⟩<;>omega)|(refine⟨?_,?_,?_⟩<;>omega))|(intro hg;(try simp only[bB]at hg);first|omega|(refine⟨?_,?_⟩<;>omega)|(refine⟨?_,?_,?_⟩<;>first|omega|(show _<_;(try simp only[List.length_set]);omega)|exact leT rfl))|(refine⟨?_,?_⟩<;>omega)|(refine⟨?_,?_,?_⟩<;>first|omega|(show _<_;(try simp only[List.length_set]);omega)|exact leT rfl)|(simp only[show rI.d=(0:Int)from rfl];omega));done));(conv=>whnf))))
  refine EvIf.pos rfl ?_
  ((conv=>whnf);(repeat(refine And.intro ?_ ?_;(focus((first|omega|exact⟨rfl,True.intro⟩|exact⟨rfl,rfl,True.intro⟩|rfl|(simp only[List.length_set];first|omega|(refine⟨?_,?_⟩<;>omega)|(refine⟨?_,?_,?_⟩<;>omega))|(intro hg;(try simp only[bB]at hg);first|omega|(refine⟨?_,?_⟩<;>omega)|(refine⟨?_,?_,?_⟩<;>first|omega|(show _<_;(try simp only[List.length_set]);omega)|exact leT rfl))|(refine⟨?_,?_⟩<;>omega)|(refine⟨?_,?_,?_⟩<;>first|omega|(show _<_;(try simp only[List.length_set]);omega)|exact leT rfl)|(simp only[show rI.d=(0:Int)from rfl];omega));done));(conv=>whnf))))
  refine EvIf.pos rfl ?_
  ((conv=>whnf);(repeat(refine And.intro ?_ ?_;(focus((first|omega|exact⟨rfl,True.intro⟩|exact⟨rfl,rfl,True.intro⟩|rfl|(simp only[List.length_set];first|omega|(refine⟨?_,?_⟩<;>omega)|(refine⟨?_,?_,?_⟩<;>omega))|(intro hg;(try simp only[bB]at hg);first|omega|(refine⟨?_,?_⟩<;>omega)|(refine⟨?_,?_,?_⟩<;>first|omega|(show _<_;(try simp only[List.length_set]);omega)|exact leT rfl))|(refine⟨?_,?_⟩<;>omega)|(refine⟨?_,?_,?_⟩<;>first|omega|(show _<_;(try simp only[List.length_set]);omega)|exact leT rfl)|(simp only[show rI.d=(0:Int)from rfl];omega));done));(conv=>whnf))))
  refine EvIf.pos rfl ?_
  ((conv=>whnf);(repeat(refine And.intro ?_ ?_;(focus((first|omega|exact⟨rfl,True.intro⟩|exact⟨rfl,rfl,True.intro⟩|rfl|(simp only[List.length_set];first|omega|(refine⟨?_,?_⟩<;>omega)|(refine⟨?_,?_,?_⟩<;>omega))|(intro hg;(try simp only[bB]at hg);first|omega|(refine⟨?_,?_⟩<;>omega)|(refine⟨?_,?_,?_⟩<;>first|omega|(show _<_;(try simp only[List.length_set]);omega)|exact leT rfl))|(refine⟨?_,?_⟩<;>omega)|(refine⟨?_,?_,?_⟩<;>first|omega|(show _<_;(try simp only[List.length_set]);omega)|exact leT rfl)|(simp only[show rI.d=(0:Int)from rfl];omega));done));(conv=>whnf))))
  refine EvIf.neg rfl ?_
  ((conv=>whnf);repeat(refine And.intro (by omega) ?_;(conv=>whnf)))
  refine EvBi.append_nil (R := rW) tyok125 rfl tyok108 rfl (by decide) rfl [hWord] (fun ρ W hp => hp.lit (R := rW) (ys := [hWord]) (n := 1) (sz := 1) (c := 1) rfl (by decide) (by simp) (by omega) rfl) (by show _ * 8 ≤ _; simp) (by simp) (fun cap hq1 hq2 => ?_)
  ((conv=>whnf);repeat(refine And.intro (by omega) ?_;(conv=>whnf)))
  refine EvIf.neg rfl ?_
  ((conv=>whnf);repeat(refine And.intro (by omega) ?_;(conv=>whnf)))
  exact EvRet.rows (R := rW) rfl hq1 rfl rfl
theorem rmix_any (s x : Int) (w : World) : Calls Try.prog 107 #[.int .u64 s, .int .u64 x] w fun e w' => e = .returned (.int .u64 (mixV s x)) ∧ w' = w := by
  go_enter Try.func107, Try.ntmps107
  have hm := u64_rng (bits BinOp.xor IntKind.u64 s x * 11400714819323198485)
  have hd : IntKind.u64.wrap ((IntKind.u64.wrap (bits BinOp.xor IntKind.u64 s x * 11400714819323198485)).tdiv 4294967296) = IntKind.u64.wrap (bits BinOp.xor IntKind.u64 s x * 11400714819323198485) / 4294967296 := by
    rw [Int.tdiv_eq_ediv_of_nonneg hm.1, u64_in _ (by omega)]
  go_wp2
  go_ret
  exact ⟨rfl, rfl⟩
theorem rows_bytes (w : World) (t : TypeId) : RowsIn rU (Lib.bytesWorld w t sHist) (.slice (some ⟨w.heap.size, 0, none⟩) sHist.size (grownCap w sHist.size 0 t)) hBytes := by
  refine ⟨some ⟨w.heap.size, 0, none⟩, grownCap w sHist.size 0 t, rfl, grownCap_ge _ _ _ _, grownCap_le_maxLen _ _ _ _ (by decide), rfl, fun _ => ⟨w.heap.size, 0, rfl, by rw [Lib.bytesWorld_size]; omega, ?_⟩⟩
  intro k u hu
  have hk : k < 7 := by
    have := (List.getElem?_eq_some_iff.1 hu).1
    exact this
  rw [Nat.zero_add, Lib.bytesWorld_cell w t sHist k hk, ← hu]
  have hall : ∀ k, k < 7 → (rowC rU hBytes)[k]? = some (.int .u8 (sHist.data.toList.getD k 0).toNat) := by
    intro k hk
    match k, hk with
    | 0, _ => rfl
    | 1, _ => rfl
    | 2, _ => rfl
    | 3, _ => rfl
    | 4, _ => rfl
    | 5, _ => rfl
    | 6, _ => rfl
  exact (hall k hk).symm
def sumA (s : ByteArray) (wd : Int) (ws : List Int) (k : Nat) : Int := (ws.take k).foldl (fun a x => mixV a (IntKind.u64.wrap x)) (mixV (mixV (mixV 0 wd) (s.size : Int)) (ws.length : Int))
theorem sumA_succ (s : ByteArray) (wd : Int) (ws : List Int) (k : Nat) (h : k < ws.length) : sumA s wd ws (k + 1) = mixV (sumA s wd ws k) (IntKind.u64.wrap ws[k]) := by
  unfold sumA
  rw [List.take_add_one, List.getElem?_eq_getElem h, List.foldl_append]
  rfl
theorem sumA_zero (s : ByteArray) (wd : Int) (ws : List Int) : sumA s wd ws 0 = mixV (mixV (mixV 0 wd) (s.size : Int)) (ws.length : Int) := rfl
theorem own_w {B : Nat} {A : Option Addr} {wd : Int} {c : Nat} {ty : TypeId} {W : World} (h : OwnOk B (fun _ => A) ⟨0, true, ty, rW.cols.length, c, .rows Int rW [wd]⟩ W) : ∃ g, A = some ⟨g, 0, none⟩ ∧ W.cell? ⟨g, 0, none⟩ = some (.int .u64 wd) := by
  rcases h with ⟨_, h, _⟩ | ⟨g, junk, h1, h2, h3, h4, h5⟩
  · cases h
  · exact ⟨g, h1, (h5.cell 0).trans rfl⟩
set_option maxRecDepth 100000 in
set_option maxHeartbeats 400000 in
theorem rsum_gen (s : ByteArray) (hs : s.size ≤ 1000) (wd : Int) (b off c cap : Nat) (ws : List Int) (w W1 : World) (hb : b < w.heap.size) (hcell : ∀ (k : Nat) (x : Int), ws[k]? = some x → w.cell? ⟨b, off + k, none⟩ = some (.int .i64 x)) (hl : ws.length ≤ 1000000)
    (hcv : (convert 9 127 (.string s)).run Try.prog w = .ok (.slice (some ⟨w.heap.size, 0, none⟩) s.size cap) W1) (hbw : Below w.heap.size w W1)
    (hwd : Calls Try.prog 106 #[.slice (some ⟨w.heap.size, 0, none⟩) s.size cap] W1 (RetRows rW 108 W1 [wd])) :
    Calls Try.prog 88 #[.string s, .slice (some ⟨b, off, none⟩) ws.length c] w fun e W' => e = .returned (.int .u64 (mixV (sumA s wd ws ws.length) 0)) ∧ Below w.heap.size w W' := by
  go_enter Try.func88, Try.ntmps88
  go_wp2_with (go_at_call 106; refine hwd.mono ?_; rintro e W2 ⟨A2, c2, rfl, hb2, hc2, hok2⟩)
  obtain ⟨g, rfl, hcw⟩ := own_w hok2
  have hB2 : Below w.heap.size w W2 := hbw.trans (hb2.mono hbw.size)
  go_loopw [5, 7] (fun p q wr => ∃ k : Nat, p = .int .u64 (([wd].take k).foldl mixV 0) ∧ q = .int .i64 (k : Int) ∧ k ≤ 1 ∧ wr = W2) (fun p q wr => 1 - (intOf q).toNat)
  case atStart => exact ⟨0, rfl, rfl, by omega, rfl⟩
  case round =>
    obtain ⟨k, rfl, rfl, hk, rfl⟩ := hrel
    by_cases hlt : k < 1
    case pos =>
      obtain rfl : k = 0 := by omega
      go_wp2_with (go_at_call 107; refine (rmix_any _ _ _).mono ?_; rintro e w' ⟨rfl, rfl⟩)
      go_roundw
      case rel => exact ⟨1, rfl, rfl, by omega, trivial⟩
      case measure =>
        simp only [intOf]
        omega
    case neg =>
      obtain rfl : k = 1 := by omega
      go_wp2_with (go_at_call 107; refine (rmix_any _ _ _).mono ?_; rintro e w' ⟨rfl, rfl⟩)
      have hlt' : s.size ≤ 1000 := hs
      go_loopw [5, 8] (fun p q wr => ∃ k : Nat, p = .int .u64 (sumA s wd ws k) ∧ q = .int .i64 (k : Int) ∧ k ≤ ws.length ∧ wr = w') (fun p q wr => ws.length - (intOf q).toNat)
      case atStart =>
        exact ⟨0, rfl, rfl, Nat.zero_le _, rfl⟩
      case round =>
        obtain ⟨k, rfl, rfl, hk2, rfl⟩ := hrel
        by_cases hlt2 : k < ws.length
        case pos =>
          have hlt' : (k : Int) < (ws.length : Int) := by omega
          have hck : wr.cell? ⟨b, off + k, none⟩ = some (.int .i64 ws[k]) := (hB2.cell (p := ⟨b, off + k, none⟩) hb).trans (hcell k _ (List.getElem?_eq_getElem hlt2))
          go_wp2_with (go_at_call 107; refine (rmix_any _ _ _).mono ?_; rintro e w' ⟨rfl, rfl⟩)
          go_roundw
          case rel => exact ⟨k + 1, by rw [sumA_succ s wd ws k hlt2], by rw [show (k : Int) + 1 = ((k + 1 : Nat) : Int) by omega], by omega, trivial⟩
          case measure =>
            simp only [intOf]
            omega
        case neg =>
          have hlt' : ¬ ((k : Int) < (ws.length : Int)) := by omega
          obtain rfl : k = ws.length := by omega
          go_wp2_with (go_at_call 107; refine (rmix_any _ _ _).mono ?_; rintro e w' ⟨rfl, rfl⟩)
          go_ret
          exact ⟨rfl, hB2⟩
theorem rsum_s (v : Value) (ws : List Int) (w : World) (hv : RowsIn rI w v ws) (h0 : 0 < ws.length) (hl : ws.length ≤ 1000000) :
    Con Try.prog 88 #[.string sHist, v] w (Ret w (.int .u64 (sumV sHist ws))) := by
  obtain ⟨A, c, rfl, h1, h2, h3, h4⟩ := hv
  obtain ⟨b, off, rfl, hb, hc⟩ := h4 h0
  have hcv := Lib.run_convert_string_bytes (P := Try.prog) w 9 127 5 sHist (u := .string) Try.underlying9 Try.underlying127 Try.underlying5
  have h := rsum_gen sHist (by decide) hWord b off c _ ws w _ hb (fun k x hx => hc k _ (by
    have e : rowC rI ws = ws.map (Value.int .i64) := cells_ints (fun _ => none) ws
    rw [e, List.getElem?_map, hx]
    rfl)) hl hcv (Lib.bytesWorld_below w 5 sHist) (words_s _ _ (rows_bytes w 5)).out
  have e : mixV (sumA sHist hWord ws ws.length) 0 = sumV sHist ws := by
    unfold sumV sumA sum2 sum1
    rw [words_hist]
    rfl
  rw [e] at h
  exact ⟨h⟩
end Go.Proofs.Ytnoenmacakbhdaa
