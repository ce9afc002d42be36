/- Parts of one proof, joined: NumF, G33, G32, E34, E112, G112, E113. -/
import Derived.Test.YtnojehmbiceceaaMQueryNears10
import Derived.Test.YtnojehmbiceceaaProg
section
set_option linter.unusedVariables false
set_option linter.unusedSimpArgs false
namespace Go.Proofs.Ytnojehmbiceceaa.P
open Go Go.Ev Go.Ari Go.Proofs.Ytnojehmbiceceaa.Num1Num Go.Proofs.Ytnojehmbiceceaa.Num2Num Go.Proofs.Ytnojehmbiceceaa.Num3Num Go.Proofs.Ytnojehmbiceceaa.Num4Num Go.Proofs.Ytnojehmbiceceaa.Num5Num Go.Proofs.Ytnojehmbiceceaa.Num6Num
theorem specP_weak {P : Program} {f : FuncId} {α β : Type} {c : CodL α} {p : α → Option β} {res : β → List D} {old : Ev.Spec} (ho : SpecOk P f old) (h : ∀ x r, p x = some r → old.run (c.e x) = some (res r)) : SpecOk P f (specP c p res) :=
  SpecOk.weak ho fun xs rs hr => by
    unfold specP specC at hr
    obtain ⟨x, rfl, hp, rfl⟩ := mkSpec_inv hr
    cases hx : p x with
    | none => rw [hx] at hp; cases hp
    | some r => simp only; exact h x r hx
def uB (x : Int) : Bool := decide (0 ≤ x) && decide (x < 18446744073709551616)
def iB (x : Int) : Bool := decide (-9223372036854775808 ≤ x) && decide (x < 9223372036854775808)
theorem uB_i {x : Int} (h : uB x = true) : U x := by simpa [uB, U] using h
theorem iB_i {x : Int} (h : iB x = true) : I x := by simpa [iB, I] using h
abbrev C1 (k : IntKind) : CodL (Int × Unit) := cCons (cI k) cNil
abbrev C2 (k : IntKind) : CodL (Int × Int × Unit) := cCons (cI k) (cCons (cI k) cNil)
abbrev C3 (k : IntKind) : CodL (Int × Int × Int × Unit) := cCons (cI k) (cCons (cI k) (cCons (cI k) cNil))
abbrev CW : Cod (Int × Int × Unit) := cA 176 (cCons (cI .i64) (cCons (cI .u64) cNil))
/-! ### math/bits -/
def p_bits_Add64 (L : Nat) (x y c : Int) : Option (Int × Int) := cb (uB x && uB y && (decide (0 ≤ c) && decide (c ≤ 1))) (some ((x + y + c) % 18446744073709551616, (x + y + c) / 18446744073709551616)) none
noncomputable def s_bits_Add64 (L : Nat) : Ev.Spec := specP (C3 .u64) (fun x => p_bits_Add64 L x.1 x.2.1 x.2.2.1) fun r => [.int .u64 r.1, .int .u64 r.2]
theorem s_bits_Add64_run (L : Nat) (x y c : Int) : (s_bits_Add64 L).run [.int .u64 x, .int .u64 y, .int .u64 c] = (p_bits_Add64 L x y c).map fun r => [.int .u64 r.1, .int .u64 r.2] := specP_run (C3 .u64) (fun x => p_bits_Add64 L x.1 x.2.1 x.2.2.1) (fun r => [.int .u64 r.1, .int .u64 r.2]) (x, y, c, ())
theorem ok_bits_Add64 (L : Nat) (hL : L ≤ 4611686018427387904) : SpecOk Try.prog 228 (s_bits_Add64 L) := specP_weak sAdd_ok fun x r h => by
  rcases cb_e h with ⟨hc, h⟩ | ⟨_, h⟩
  · simp only [Bool.and_eq_true, decide_eq_true_eq] at hc
    cases h
    exact sAdd_run x.1 x.2.1 x.2.2.1 (uB_i hc.1.1) (uB_i hc.1.2) hc.2.1 hc.2.2
  · cases h
def p_bits_Mul64 (L : Nat) (x y : Int) : Option (Int × Int) := cb (uB x && uB y) (some (x * y / 18446744073709551616, x * y % 18446744073709551616)) none
noncomputable def s_bits_Mul64 (L : Nat) : Ev.Spec := specP (C2 .u64) (fun x => p_bits_Mul64 L x.1 x.2.1) fun r => [.int .u64 r.1, .int .u64 r.2]
theorem s_bits_Mul64_run (L : Nat) (x y : Int) : (s_bits_Mul64 L).run [.int .u64 x, .int .u64 y] = (p_bits_Mul64 L x y).map fun r => [.int .u64 r.1, .int .u64 r.2] := specP_run (C2 .u64) (fun x => p_bits_Mul64 L x.1 x.2.1) (fun r => [.int .u64 r.1, .int .u64 r.2]) (x, y, ())
theorem ok_bits_Mul64 (L : Nat) (hL : L ≤ 4611686018427387904) : SpecOk Try.prog 172 (s_bits_Mul64 L) := specP_weak sMul_ok fun x r h => by
  rcases cb_e h with ⟨hc, h⟩ | ⟨_, h⟩
  · simp only [Bool.and_eq_true] at hc
    cases h
    exact sMul_run x.1 x.2.1 (uB_i hc.1) (uB_i hc.2)
  · cases h
def p_bits_Div64 (L : Nat) (a b c : Int) : Option (Int × Int) := cb (uB a && uB b && uB c && decide (a < c)) (some ((a * 18446744073709551616 + b) / c, (a * 18446744073709551616 + b) % c)) none
noncomputable def s_bits_Div64 (L : Nat) : Ev.Spec := specP (C3 .u64) (fun x => p_bits_Div64 L x.1 x.2.1 x.2.2.1) fun r => [.int .u64 r.1, .int .u64 r.2]
theorem s_bits_Div64_run (L : Nat) (x y c : Int) : (s_bits_Div64 L).run [.int .u64 x, .int .u64 y, .int .u64 c] = (p_bits_Div64 L x y c).map fun r => [.int .u64 r.1, .int .u64 r.2] := specP_run (C3 .u64) (fun x => p_bits_Div64 L x.1 x.2.1 x.2.2.1) (fun r => [.int .u64 r.1, .int .u64 r.2]) (x, y, c, ())
theorem ok_bits_Div64 (L : Nat) (hL : L ≤ 4611686018427387904) : SpecOk Try.prog 203 (s_bits_Div64 L) := specP_weak sDiv_ok fun x r h => by
  rcases cb_e h with ⟨hc, h⟩ | ⟨_, h⟩
  · simp only [Bool.and_eq_true, decide_eq_true_eq] at hc
    cases h
    exact sDiv_run x.1 x.2.1 x.2.2.1 (uB_i hc.1.1.1) (uB_i hc.1.1.2) (uB_i hc.1.2) hc.2
  · cases h
/-! ### package num -/
def wideN (n : Int) : Int × Int := (IntKind.i64.wrap (n / 18446744073709551616), n % 18446744073709551616)
def p_num_Product (L : Nat) (a b : Int) : Option (Int × Int) := cb (iB a && iB b) (some (wideN (a * b))) none
noncomputable def s_num_Product (L : Nat) : Ev.Spec := specP (C2 .i64) (fun x => p_num_Product L x.1 x.2.1) fun r => [.agg 176 [.int .i64 r.1, .int .u64 r.2]]
theorem s_num_Product_run (L : Nat) (x y : Int) : (s_num_Product L).run [.int .i64 x, .int .i64 y] = (p_num_Product L x y).map fun r => [.agg 176 [.int .i64 r.1, .int .u64 r.2]] := specP_run (C2 .i64) (fun x => p_num_Product L x.1 x.2.1) (fun r => [.agg 176 [.int .i64 r.1, .int .u64 r.2]]) (x, y, ())
theorem ok_num_Product (L : Nat) (hL : L ≤ 4611686018427387904) : SpecOk Try.prog 110 (s_num_Product L) := specP_weak sProd_ok fun x r h => by
  rcases cb_e h with ⟨hc, h⟩ | ⟨_, h⟩
  · simp only [Bool.and_eq_true] at hc
    cases h
    exact sProd_run x.1 x.2.1 (iB_i hc.1) (iB_i hc.2)
  · cases h
def p_num_MulDiv (L : Nat) (a b c : Int) : Option (Int × Int) := cb (iB a && iB b && iB c) (some (quoR (a * b) c)) none
noncomputable def s_num_MulDiv (L : Nat) : Ev.Spec := specP (C3 .i64) (fun x => p_num_MulDiv L x.1 x.2.1 x.2.2.1) fun r => [.int .i64 r.1, .int .i64 r.2]
theorem s_num_MulDiv_run (L : Nat) (x y c : Int) : (s_num_MulDiv L).run [.int .i64 x, .int .i64 y, .int .i64 c] = (p_num_MulDiv L x y c).map fun r => [.int .i64 r.1, .int .i64 r.2] := specP_run (C3 .i64) (fun x => p_num_MulDiv L x.1 x.2.1 x.2.2.1) (fun r => [.int .i64 r.1, .int .i64 r.2]) (x, y, c, ())
theorem ok_num_MulDiv (L : Nat) (hL : L ≤ 4611686018427387904) : SpecOk Try.prog 66 (s_num_MulDiv L) := specP_weak sMulDiv_ok fun x r h => by
  rcases cb_e h with ⟨hc, h⟩ | ⟨_, h⟩
  · simp only [Bool.and_eq_true] at hc
    cases h
    exact sMulDiv_run x.1 x.2.1 x.2.2.1 (iB_i hc.1.1) (iB_i hc.1.2) (iB_i hc.2)
  · cases h
def p_num_Wide_Div (L : Nat) (a b d : Int) : Option (Int × Int) := cb (iB a && uB b && iB d) (some (quoR (a * 18446744073709551616 + b) d)) none
noncomputable def s_num_Wide_Div (L : Nat) : Ev.Spec := specP (cCons CW (C1 .i64)) (fun x => p_num_Wide_Div L x.1.1 x.1.2.1 x.2.1) fun r => [.int .i64 r.1, .int .i64 r.2]
theorem s_num_Wide_Div_run (L : Nat) (a b d : Int) : (s_num_Wide_Div L).run [.agg 176 [.int .i64 a, .int .u64 b], .int .i64 d] = (p_num_Wide_Div L a b d).map fun r => [.int .i64 r.1, .int .i64 r.2] := specP_run (cCons CW (C1 .i64)) (fun x => p_num_Wide_Div L x.1.1 x.1.2.1 x.2.1) (fun r => [.int .i64 r.1, .int .i64 r.2]) ((a, b, ()), d, ())
theorem ok_num_Wide_Div (L : Nat) (hL : L ≤ 4611686018427387904) : SpecOk Try.prog 150 (s_num_Wide_Div L) := specP_weak sWdiv_ok fun x r h => by
  rcases cb_e h with ⟨hc, h⟩ | ⟨_, h⟩
  · simp only [Bool.and_eq_true] at hc
    cases h
    exact sWdiv_run x.1.1 x.1.2.1 x.2.1 (iB_i hc.1.1) (uB_i hc.1.2) (iB_i hc.2)
  · cases h
def p_num_Wide_Neg (L : Nat) (a b : Int) : Option (Int × Int) := cb (iB a && uB b) (some (wideN (-(a * 18446744073709551616 + b)))) none
noncomputable def s_num_Wide_Neg (L : Nat) : Ev.Spec := specP (cCons CW cNil) (fun x => p_num_Wide_Neg L x.1.1 x.1.2.1) fun r => [.agg 176 [.int .i64 r.1, .int .u64 r.2]]
theorem s_num_Wide_Neg_run (L : Nat) (a b : Int) : (s_num_Wide_Neg L).run [.agg 176 [.int .i64 a, .int .u64 b]] = (p_num_Wide_Neg L a b).map fun r => [.agg 176 [.int .i64 r.1, .int .u64 r.2]] := specP_run (cCons CW cNil) (fun x => p_num_Wide_Neg L x.1.1 x.1.2.1) (fun r => [.agg 176 [.int .i64 r.1, .int .u64 r.2]]) ((a, b, ()), ())
theorem ok_num_Wide_Neg (L : Nat) (hL : L ≤ 4611686018427387904) : SpecOk Try.prog 183 (s_num_Wide_Neg L) := specP_weak sNeg_ok fun x r h => by
  rcases cb_e h with ⟨hc, h⟩ | ⟨_, h⟩
  · simp only [Bool.and_eq_true] at hc
    cases h
    exact sNeg_run x.1.1 x.1.2.1 (iB_i hc.1) (uB_i hc.2)
  · cases h
/-- The root by bits: it can be run. -/
def rootC (n : Int) : Nat → Int → Int
  | 0, r => r
  | k + 1, r => if (r + 2 ^ k) * (r + 2 ^ k) ≤ n then rootC n k (r + 2 ^ k) else rootC n k r
theorem rootC_eq (n : Int) : ∀ (k : Nat) (r : Int), 0 ≤ r → r * r ≤ n → n < (r + 2 ^ k) * (r + 2 ^ k) → rootC n k r = isqrt n
  | 0, r, h0, h1, h2 => by
    rw [rootC]
    exact (isqrt_eq ⟨h0, h1, by simpa using h2⟩).symm
  | k + 1, r, h0, h1, h2 => by
    have hp : (0 : Int) < 2 ^ k := Int.pow_pos (by decide)
    have e : (2 : Int) ^ (k + 1) = 2 ^ k + 2 ^ k := by rw [Int.pow_succ]; omega
    rw [rootC]
    split
    · rename_i c
      exact rootC_eq n k _ (by omega) c (by rw [Int.add_assoc, ← e]; exact h2)
    · rename_i c
      exact rootC_eq n k r h0 h1 (by omega)
theorem rootC_ok {n : Int} (h0 : 0 ≤ n) (h : n < 340282366920938463463374607431768211456) : rootC n 64 0 = isqrt n := rootC_eq n 64 0 (by omega) (by omega) (by simpa using h)
def rootB (a b : Int) : Int := if a < 0 then 0 else if b < 0 then 0 else rootC (a * b) 64 0
theorem prod_lt {a b : Int} (ha : a < 9223372036854775808) (hb : b < 9223372036854775808) (a0 : 0 ≤ a) (b0 : 0 ≤ b) : a * b < 340282366920938463463374607431768211456 := by
  have := Int.mul_le_mul (show a ≤ 9223372036854775808 by omega) (show b ≤ 9223372036854775808 by omega) b0 (by decide)
  omega
theorem rootB_eq {a b : Int} (ha : iB a = true) (hb : iB b = true) : rootB a b = rootR a b := by
  unfold rootB rootR
  have h1 := iB_i ha
  have h2 := iB_i hb
  unfold I at h1 h2
  split
  · rfl
  · split
    · rfl
    · exact rootC_ok (Int.mul_nonneg (by omega) (by omega)) (prod_lt h1.2 h2.2 (by omega) (by omega))
def p_num_SqrtMul (L : Nat) (a b : Int) : Option Int := cb (iB a && iB b) (some (rootB a b)) none
noncomputable def s_num_SqrtMul (L : Nat) : Ev.Spec := specP (C2 .i64) (fun x => p_num_SqrtMul L x.1 x.2.1) fun r => [.int .i64 r]
theorem s_num_SqrtMul_run (L : Nat) (a b : Int) : (s_num_SqrtMul L).run [.int .i64 a, .int .i64 b] = (p_num_SqrtMul L a b).map fun r => [.int .i64 r] := specP_run (C2 .i64) (fun x => p_num_SqrtMul L x.1 x.2.1) (fun r => [.int .i64 r]) (a, b, ())
theorem ok_num_SqrtMul (L : Nat) (hL : L ≤ 4611686018427387904) : SpecOk Try.prog 109 (s_num_SqrtMul L) := specP_weak sSqrtMul_ok fun x r h => by
  rcases cb_e h with ⟨hc, h⟩ | ⟨_, h⟩
  · simp only [Bool.and_eq_true] at hc
    cases h
    have hs := sSqrtMul_run x.1 x.2.1 (iB_i hc.1) (iB_i hc.2)
    rw [← rootB_eq hc.1 hc.2] at hs
    exact hs
  · cases h
/-! ### the document's -/
def fitB (a b d : Int) : Bool := decide (-9223372036854775808 < a) && (decide (a < 9223372036854775808) && (decide (0 ≤ b) && (decide (b < 9223372036854775808) && (decide (0 < d) && (decide (d < 9223372036854775808) && (decide (-9223372036854775807 < a * b / d) && decide (a * b / d < 9223372036854775807)))))))
theorem fitB_i {a b d : Int} (h : fitB a b d = true) : Fit a b d := by simpa [fitB, Fit] using h
def p2B (a b : Int) : Bool := decide (0 ≤ a) && (decide (a < 9223372036854775808) && (decide (0 ≤ b) && decide (b < 9223372036854775808)))
theorem p2B_i {a b : Int} (h : p2B a b = true) : P2 a b := by simpa [p2B, P2] using h
def p_spyref3_Down (L : Nat) (a b d : Int) : Option Int := cb (fitB a b d) (some (a * b / d)) none
noncomputable def s_spyref3_Down (L : Nat) : Ev.Spec := specP (C3 .i64) (fun x => p_spyref3_Down L x.1 x.2.1 x.2.2.1) fun r => [.int .i64 r]
theorem s_spyref3_Down_run (L : Nat) (x y c : Int) : (s_spyref3_Down L).run [.int .i64 x, .int .i64 y, .int .i64 c] = (p_spyref3_Down L x y c).map fun r => [.int .i64 r] := specP_run (C3 .i64) (fun x => p_spyref3_Down L x.1 x.2.1 x.2.2.1) (fun r => [.int .i64 r]) (x, y, c, ())
theorem ok_spyref3_Down (L : Nat) (hL : L ≤ 4611686018427387904) : SpecOk Try.prog 86 (s_spyref3_Down L) := specP_weak sDown_ok fun x r h => by
  rcases cb_e h with ⟨hc, h⟩ | ⟨_, h⟩
  · cases h
    exact sDown_run x.1 x.2.1 x.2.2.1 (fitB_i hc)
  · cases h
def p_spyref3_Up (L : Nat) (a b d : Int) : Option Int := cb (fitB a b d) (some (cdiv (a * b) d)) none
noncomputable def s_spyref3_Up (L : Nat) : Ev.Spec := specP (C3 .i64) (fun x => p_spyref3_Up L x.1 x.2.1 x.2.2.1) fun r => [.int .i64 r]
theorem s_spyref3_Up_run (L : Nat) (x y c : Int) : (s_spyref3_Up L).run [.int .i64 x, .int .i64 y, .int .i64 c] = (p_spyref3_Up L x y c).map fun r => [.int .i64 r] := specP_run (C3 .i64) (fun x => p_spyref3_Up L x.1 x.2.1 x.2.2.1) (fun r => [.int .i64 r]) (x, y, c, ())
theorem ok_spyref3_Up (L : Nat) (hL : L ≤ 4611686018427387904) : SpecOk Try.prog 87 (s_spyref3_Up L) := specP_weak sUp_ok fun x r h => by
  rcases cb_e h with ⟨hc, h⟩ | ⟨_, h⟩
  · cases h
    exact sUp_run x.1 x.2.1 x.2.2.1 (fitB_i hc)
  · cases h
def p_spyref3_Root (L : Nat) (a b : Int) : Option Int := cb (p2B a b) (some (rootC (a * b) 64 0)) none
noncomputable def s_spyref3_Root (L : Nat) : Ev.Spec := specP (C2 .i64) (fun x => p_spyref3_Root L x.1 x.2.1) fun r => [.int .i64 r]
theorem s_spyref3_Root_run (L : Nat) (a b : Int) : (s_spyref3_Root L).run [.int .i64 a, .int .i64 b] = (p_spyref3_Root L a b).map fun r => [.int .i64 r] := specP_run (C2 .i64) (fun x => p_spyref3_Root L x.1 x.2.1) (fun r => [.int .i64 r]) (a, b, ())
theorem ok_spyref3_Root (L : Nat) (hL : L ≤ 4611686018427387904) : SpecOk Try.prog 118 (s_spyref3_Root L) := specP_weak sRoot_ok fun x r h => by
  rcases cb_e h with ⟨hc, h⟩ | ⟨_, h⟩
  · cases h
    have hp := p2B_i hc
    unfold P2 at hp
    rw [rootC_ok (Int.mul_nonneg hp.1 hp.2.2.1) (prod_lt hp.2.1 hp.2.2.2 hp.1 hp.2.2.1)]
    exact sRoot_run x.1 x.2.1 (p2B_i hc)
  · cases h
end Go.Proofs.Ytnojehmbiceceaa.P
end
section
set_option linter.unusedVariables false
set_option linter.unusedSimpArgs false
set_option maxRecDepth 100000
namespace Go.Proofs.Ytnojehmbiceceaa.P
open Go.Ev Go.IntKind Go.Proofs.Ytnojehmbiceceaa Go.Proofs.Ytnojehmbiceceaa.Ty Go.Proofs.Ytnojehmbiceceaa.E
def p_query_Near_l0 (L : Nat) (a5 : Int) (a6 : Int) (a7 : Bool) (a8 : Int) (a9 : Int) (a10 : Bool) (a11 : Int) (a12 : Int) (a13 : Bool) (a14 : Int) (a15 : Int) (a16 : Bool) (a17 : Int) (a18 : Int) (a19 : Bool) (a20 : Int) (a21 : Int) (a22 : Bool) : Nat → Int → Int → Int → Int → Int → Int → Int → Option (Int × Int × Int × Int × Int × Int)
  | 0, s4, s32, s33, s34, s35, s36, s37 => some (s32, s33, s34, s35, s36, s37)
  | tl + 1, s4, s32, s33, s34, s35, s36, s37 => cb (decide (s4 = 0)) (bnd (p_query_product L a5 a6 a7 a14 a15 a16) fun r47 => bnd (p_query_square L a5 a6 a7) fun r48 => bnd (p_query_square L a14 a15 a16) fun r49 => p_query_Near_l0 L a5 a6 a7 a8 a9 a10 a11 a12 a13 a14 a15 a16 a17 a18 a19 a20 a21 a22 tl (s4 + 1) (i64.wrap (s32 + r47.1)) (i64.wrap (s33 + r47.2)) (i64.wrap (s34 + r48.1)) (i64.wrap (s35 + r48.2)) (i64.wrap (s36 + r49.1)) (i64.wrap (s37 + r49.2))) (cb (decide (s4 = 1)) (bnd (p_query_product L a8 a9 a10 a17 a18 a19) fun r50 => bnd (p_query_square L a8 a9 a10) fun r51 => bnd (p_query_square L a17 a18 a19) fun r52 => p_query_Near_l0 L a5 a6 a7 a8 a9 a10 a11 a12 a13 a14 a15 a16 a17 a18 a19 a20 a21 a22 tl (s4 + 1) (i64.wrap (s32 + r50.1)) (i64.wrap (s33 + r50.2)) (i64.wrap (s34 + r51.1)) (i64.wrap (s35 + r51.2)) (i64.wrap (s36 + r52.1)) (i64.wrap (s37 + r52.2))) (cb (decide (s4 = 2)) (bnd (p_query_product L a11 a12 a13 a20 a21 a22) fun r53 => bnd (p_query_square L a11 a12 a13) fun r54 => bnd (p_query_square L a20 a21 a22) fun r55 => p_query_Near_l0 L a5 a6 a7 a8 a9 a10 a11 a12 a13 a14 a15 a16 a17 a18 a19 a20 a21 a22 tl (s4 + 1) (i64.wrap (s32 + r53.1)) (i64.wrap (s33 + r53.2)) (i64.wrap (s34 + r54.1)) (i64.wrap (s35 + r54.2)) (i64.wrap (s36 + r55.1)) (i64.wrap (s37 + r55.2))) (none)))
def p_query_Near (L : Nat) (a0_0_0 : Int) (a0_0_1 : Int) (a0_0_2 : Bool) (a0_1_0 : Int) (a0_1_1 : Int) (a0_1_2 : Bool) (a0_2_0 : Int) (a0_2_1 : Int) (a0_2_2 : Bool) (a1_0_0 : Int) (a1_0_1 : Int) (a1_0_2 : Bool) (a1_1_0 : Int) (a1_1_1 : Int) (a1_1_2 : Bool) (a1_2_0 : Int) (a1_2_1 : Int) (a1_2_2 : Bool) (a2 : Int) : Option Int := bnd (p_query_sides L a0_0_0 a0_0_1 a0_0_2 a0_1_0 a0_1_1 a0_1_2 a0_2_0 a0_2_1 a0_2_2) fun r1 => bnd (p_query_sides L a1_0_0 a1_0_1 a1_0_2 a1_1_0 a1_1_1 a1_1_2 a1_2_0 a1_2_1 a1_2_2) fun r2 => if a2 < 0 then (some 0) else (if a2 > 1073741824 then (some 0) else (cb r1.2.2.2.2.2.2.2.2.2 (cb r2.2.2.2.2.2.2.2.2.2 (rq (3 < L) <| bnd (p_query_Near_l0 L r1.1 r1.2.1 r1.2.2.1 r1.2.2.2.1 r1.2.2.2.2.1 r1.2.2.2.2.2.1 r1.2.2.2.2.2.2.1 r1.2.2.2.2.2.2.2.1 r1.2.2.2.2.2.2.2.2.1 r2.1 r2.2.1 r2.2.2.1 r2.2.2.2.1 r2.2.2.2.2.1 r2.2.2.2.2.2.1 r2.2.2.2.2.2.2.1 r2.2.2.2.2.2.2.2.1 r2.2.2.2.2.2.2.2.2.1 3 0 0 0 0 0 0 0) fun o56 => bnd (p_num_SqrtMul L o56.2.2.2.1 o56.2.2.2.2.2) fun r58 => bnd (p_num_Product L r58 r58) fun r59 => bnd (p_num_Product L o56.2.2.2.1 o56.2.2.2.2.2) fun r60 => bnd (p_num_Wide_Cmp L r59.1 r59.2 r60.1 r60.2) fun r61 => if r61 < 0 then (if o56.2.2.1 > 0 then (if o56.2.2.2.2.1 > 0 then (bnd (p_num_Product L o56.1 1073741824) fun r62 => bnd (p_num_Product L a2 (i64.wrap (r58 + 1))) fun r63 => bnd (p_num_Wide_Cmp L r62.1 r62.2 r63.1 r63.2) fun r64 => if r64 ≥ 0 then (some 2) else (bnd (p_num_Product L o56.2.1 1073741824) fun r65 => bnd (p_num_SqrtMul L o56.2.2.1 o56.2.2.2.2.1) fun r66 => bnd (p_num_Product L a2 r66) fun r67 => bnd (p_num_Wide_Cmp L r65.1 r65.2 r67.1 r67.2) fun r68 => if r68 < 0 then (some 0) else (some 1))) else (bnd (p_num_Product L o56.2.1 1073741824) fun r69 => bnd (p_num_SqrtMul L o56.2.2.1 o56.2.2.2.2.1) fun r70 => bnd (p_num_Product L a2 r70) fun r71 => bnd (p_num_Wide_Cmp L r69.1 r69.2 r71.1 r71.2) fun r72 => if r72 < 0 then (some 0) else (some 1))) else (bnd (p_num_Product L o56.2.1 1073741824) fun r73 => bnd (p_num_SqrtMul L o56.2.2.1 o56.2.2.2.2.1) fun r74 => bnd (p_num_Product L a2 r74) fun r75 => bnd (p_num_Wide_Cmp L r73.1 r73.2 r75.1 r75.2) fun r76 => if r76 < 0 then (some 0) else (some 1))) else (if o56.2.2.1 > 0 then (if o56.2.2.2.2.1 > 0 then (bnd (p_num_Product L o56.1 1073741824) fun r77 => bnd (p_num_Product L a2 r58) fun r78 => bnd (p_num_Wide_Cmp L r77.1 r77.2 r78.1 r78.2) fun r79 => if r79 ≥ 0 then (some 2) else (bnd (p_num_Product L o56.2.1 1073741824) fun r80 => bnd (p_num_SqrtMul L o56.2.2.1 o56.2.2.2.2.1) fun r81 => bnd (p_num_Product L a2 r81) fun r82 => bnd (p_num_Wide_Cmp L r80.1 r80.2 r82.1 r82.2) fun r83 => if r83 < 0 then (some 0) else (some 1))) else (bnd (p_num_Product L o56.2.1 1073741824) fun r84 => bnd (p_num_SqrtMul L o56.2.2.1 o56.2.2.2.2.1) fun r85 => bnd (p_num_Product L a2 r85) fun r86 => bnd (p_num_Wide_Cmp L r84.1 r84.2 r86.1 r86.2) fun r87 => if r87 < 0 then (some 0) else (some 1))) else (bnd (p_num_Product L o56.2.1 1073741824) fun r88 => bnd (p_num_SqrtMul L o56.2.2.1 o56.2.2.2.2.1) fun r89 => bnd (p_num_Product L a2 r89) fun r90 => bnd (p_num_Wide_Cmp L r88.1 r88.2 r90.1 r90.2) fun r91 => if r91 < 0 then (some 0) else (some 1)))) (some 1)) (some 1)))
attribute [local go_sem] Ev.putR_s Ev.putR_0 Ev.thenO_s Ev.thenO_0 Ev.seqR_n Ev.seqR_e Ev.seqR_r Ev.seqR_0 Ev.blkR_e Ev.blkR_n Ev.blkR_r Ev.blkR_0 Ev.normR_s Ev.normR_0 Ev.outR_r Ev.outR_n Ev.outR_0 Ev.retS_s Ev.retS_0 Ev.pureO_s Ev.pureO_0 Ev.topR_0 Ev.topR_t Ev.topR_t0 Ev.oneL_0 Ev.oneL_s Ev.topR_d Ev.topR_nils Ev.topR_agg Ev.topR_rs Ev.evOp_move Ev.evOp_assign Ev.evOp_pick Ev.evOp_alloc Ev.evOp_box Ev.evOp_build Ev.evOp_buildSlice Ev.evOp_load Ev.evOp_store Ev.evOp_makeMap Ev.evOp_lookup Ev.evOp_mapUpdate Ev.evOp_insert Ev.evOp_nilCheck Ev.evOp_binOp Ev.evOp_unOp Ev.evOp_convert Ev.evOp_makeFunc Ev.evOp_makeSlice Ev.evOp_slice Ev.evOp_fieldAddr Ev.evOp_field Ev.evOp_indexAddr Ev.evOp_index Ev.evOp_extract Ev.evOp_call Ev.evOp_append Ev.evOp_clear Ev.evOp_len Ev.evOp_min Ev.evOp_max Ev.condR_b Ev.condR_t Ev.evOps_nil Ev.evOps_plain Ev.evOps_guard Ev.runG_eq Ev.skipG_eq Ev.condL_tt Ev.condL_ff Ev.condL_tf Ev.condL_ft Ev.condL_u Ev.condC_t Ev.condC_f Ev.evC_skip Ev.evC_ret Ev.evC_exit Ev.evC_label Ev.evC_region Ev.evC_draw Ev.evC_seq Ev.evC_cond Ev.evC_block Ev.evC_loop Ev.fin_d Ev.fin_nils Ev.fin_agg_ Ev.fin_rs Ev.finS_s Ev.mapO_fin Ev.upd_upd Ev.argv_d Ev.argv_nils Ev.argv_agg Ev.argv_rs Ev.argv_p Ev.fk_low Ev.appendTo_nils Ev.appendTo_rs Ev.consV_d Ev.consV_agg Ev.consV_p Ev.consV_rs Ev.consV_nils Ev.consV_fn Ev.consV_und Ev.consV_jk Ev.consV_grown Ev.topR_grown Ev.len_grown Ev.consV_mp Ev.sameK_i Ev.sameK_s Ev.mget_0 Ev.mget_hit Ev.mget_miss Ev.mput_0 Ev.mput_hit Ev.mput_miss Ev.apartAll Ev.apartL Ev.apartV Ev.freeAll Ev.sel Ev.keyOfV Ev.evLookup Ev.evPut Ev.hintOk Ev.keyOk Ev.consP Ev.lookV Ev.guardV Ev.dstAt Ev.evPure Ev.evStore Ev.evBin Ev.evBinO Ev.evNil Ev.isNilC Ev.evUn Ev.evConv Ev.evSlice Ev.optI Ev.foldI Ev.capsOk Ev.noTup Ev.nth Ev.setN Ev.killAt Ev.pad Ev.V.get Ev.V.put Ev.putD Ev.newBlk Ev.upd Ev.keq Ev.empty Ev.evCall Ev.V.args Ev.argP Ev.callOf Ev.evNilP Ev.isNilP Ev.look Ev.V.view.views Ev.V.view Ev.V.toD Ev.V.toD.V.toDs Ev.V.pure.pures Ev.V.pure Ev.D.flat.flats Ev.D.flat Ev.mkAgg Ev.allD Ev.aggParts Ev.setParts Ev.setElems Ev.getPath Ev.setPath Ev.subL Ev.eqD Ev.eqD.eqDs Ev.and2 Ev.strCut Ev.evalT Ev.constT Ev.evArgs Ev.mask Ev.maskOf Ev.tableOf Ev.compT Ev.resV Ev.retV Ev.mapO Ev.frzO_n Ev.frzO_e Ev.frzO_r Ev.frzO_0 Ev.mb_z Ev.mb_0 Ev.mb_s Ev.frzL_t Ev.frzL_f Ev.frzL_0 Ev.frzT_nils Ev.frzT_rs Ev.frzT_p Ev.frzK_i Ev.keyIn_i Ev.rI_nil Ev.rI_cons Ev.rI_row Ev.rI_app Ev.r_d Ev.r_nils Ev.r_agg Ev.r_rs Ev.r_gl Ev.vw_row Ev.vw_app Ev.appO_s Ev.frzT_gl Ev.allD_gl Ev.killAt_i Ev.tkOne_i Ev.hT_agg Ev.hT_vagg Ev.hT_int Ev.hT_bool Ev.hT_str Ev.hT_sl Ev.hT_ptr Ev.hT_np Ev.hT_p Ev.hT_rs Ev.hT_mp Ev.hT_nils Ev.hT_fn Ev.hT_jk Ev.hT_gl Ev.eO_sl Ev.eO_nils Ev.eO_rs Ev.eT_sl Ev.eT_rs Ev.pL_str Ev.pL_sl Ev.pL_rs Ev.pL_nils Ev.pL_min Ev.pL_max Ev.len_glB Ev.noTup_gl Ev.rowV_len Ev.rowV_nil Ev.rowV_cons Ev.rowV_append Ev.rowV_set Ev.rowV_replicate Ev.nth_row Ev.row_take Ev.row_drop Ev.toDs_row Ev.fin_row Ev.map_row Ev.map_take_ Ev.map_drop_ Ev.Bk_i Ev.GlB_0 Ev.GlB_mk Ev.gl_nil Ev.gl_cons Ev.gl_snoc Ev.gl_setN Ev.appendTo_gl Ev.consV_gl Ev.elems_gl Ev.fin_gl Ev.view_gl Ev.argv_gl Ev.topR_gl Ev.sp_z Ev.sp_0 Ev.sp_s Ev.km_z Ev.km_0 Ev.km_s Ev.beq_toList Ev.nc0 Ev.bq_t Ev.bq_f Ev.bodyN Ev.le_maxRow Int.cast_ofNat_Int IntWalk.i64_in IntWalk.u64_in IntWalk.u8_in beq_self_eq_true Bool.true_beq Bool.false_beq Bool.and_true Bool.true_and Bool.false_and Bool.and_false Bool.and_self Bool.not_true Bool.not_false Bool.not_eq_true cond_true cond_false if_true if_false and_true true_and and_self decide_true decide_false Bool.or_true Bool.true_or Bool.or_false Bool.false_or List.isEmpty List.isEmpty_nil List.size_toArray List.map List.length_map List.length_cons List.length_nil Option.map Option.bind Option.getD Option.isSome List.replicate Bool.false_eq_true implies_true false_implies forall_const Array.toList Array.isEmpty List.append List.nil_append List.cons_append List.drop_zero List.take_length List.take_succ_cons List.take_zero List.take_nil List.getElem?_map List.getElem?_cons_zero List.getElem?_cons_succ List.getElem?_nil List.append_nil eq_self Int.toNat_natCast List.length_append Nat.zero_add Nat.add_zero List.length_replicate Nat.sub_zero Option.map_some Option.map_none Int.le_refl Nat.le_refl Int.natCast_nonneg List.map_append
noncomputable def G_query_Near (L : Nat) : Specs := [(106, s_query_sides L), (107, s_query_product L), (108, s_query_square L), (109, s_num_SqrtMul L), (110, s_num_Product L), (111, s_num_Wide_Cmp L)]
noncomputable def T_query_Near : Table := tableOf [(33, en33)]
theorem Go_query_Near (L : Nat) (hL : L ≤ 4611686018427387904) : ∀ g s, Ev.look (G_query_Near L) g = some s → SpecOk Try.prog g s := (specs_cons (ok_query_sides L hL) (specs_cons (ok_query_product L hL) (specs_cons (ok_query_square L hL) (specs_cons (ok_num_SqrtMul L hL) (specs_cons (ok_num_Product L hL) (specs_cons (ok_num_Wide_Cmp L hL) specs_nil))))))
theorem To_query_Near (L : Nat) : TableOk Try.prog ((G_query_Near L).map (·.1)) T_query_Near := (table_cons Try.func33 (by kernel_rfl) (by kernel_rfl) table_nil)
theorem lk_query_Near_106 (L : Nat) : Ev.look (G_query_Near L) 106 = some (s_query_sides L) := nr rfl
theorem lk_query_Near_107 (L : Nat) : Ev.look (G_query_Near L) 107 = some (s_query_product L) := nr rfl
theorem lk_query_Near_108 (L : Nat) : Ev.look (G_query_Near L) 108 = some (s_query_square L) := nr rfl
theorem lk_query_Near_109 (L : Nat) : Ev.look (G_query_Near L) 109 = some (s_num_SqrtMul L) := nr rfl
theorem lk_query_Near_110 (L : Nat) : Ev.look (G_query_Near L) 110 = some (s_num_Product L) := nr rfl
theorem lk_query_Near_111 (L : Nat) : Ev.look (G_query_Near L) 111 = some (s_num_Wide_Cmp L) := nr rfl
attribute [local go_sem] Ty.tk2 Ty.ik2 Ty.ek2 Ty.zv2 Ty.by2 Ty.so2 Ty.tk3 Ty.ik3 Ty.ek3 Ty.zv3 Ty.by3 Ty.so3 Ty.tk4 Ty.ub4 Ty.ek4 Ty.zv4 Ty.by4 Ty.so4 Ty.tk62 Ty.ik62 Ty.ek62 Ty.zv62 Ty.by62 Ty.so62 Ty.tk64 Ty.ct64 Ty.ek64 Ty.zv64 Ty.by64 Ty.so64 Ty.tk66 Ty.ct66 Ty.ek66 Ty.zv66 Ty.by66 Ty.so66 Ty.tk67 Ty.ik67 Ty.ek67 Ty.zv67 Ty.by67 Ty.so67 Ty.tk133 Ty.ik133 Ty.ek133 Ty.zv133 Ty.by133 Ty.so133 Ty.tk168 Ty.ct168 Ty.zv168 Ty.by168 Ty.so168 Ty.tk176 Ty.ct176 Ty.ek176 Ty.zv176 Ty.by176 Ty.so176 Ty.k64_e Ty.k66_e Ty.k168_e Ty.k176_e E.dw33_11 E.kl33_11 E.nc33_11 E.mk33_0 E.mk33_1000001 E.mk33_1000002 E.mk33_1000003 E.mk33_1000000 E.fz33_0 E.fi33_0 E.lb33_0 lk_query_Near_106 lk_query_Near_107 lk_query_Near_108 lk_query_Near_109 lk_query_Near_110 lk_query_Near_111 s_query_sides_run s_query_product_run s_query_square_run s_num_SqrtMul_run s_num_Product_run s_num_Wide_Cmp_run loopN loops Try.f33
def Q0_p_query_Near_l0 (a2 : Int) (a5 : Int) (a6 : Int) (a7 : Bool) (a8 : Int) (a9 : Int) (a10 : Bool) (a11 : Int) (a12 : Int) (a13 : Bool) (a14 : Int) (a15 : Int) (a16 : Bool) (a17 : Int) (a18 : Int) (a19 : Bool) (a20 : Int) (a21 : Int) (a22 : Bool) (u : Int × Int × Int × Int × Int × Int) (z : Out) : Prop := ∃ env st, z = some (.exit 0, env, st) ∧ env = sp 128 0 [(2, .d (.int .i64 a2)), (11, .d (.int .i64 u.1)), (12, .d (.int .i64 u.2.1)), (13, .d (.int .i64 u.2.2.1)), (14, .d (.int .i64 u.2.2.2.1)), (15, .d (.int .i64 u.2.2.2.2.1)), (16, .d (.int .i64 u.2.2.2.2.2))]
abbrev Q_p_query_Near_l0 (a2 : Int) (a5 : Int) (a6 : Int) (a7 : Bool) (a8 : Int) (a9 : Int) (a10 : Bool) (a11 : Int) (a12 : Int) (a13 : Bool) (a14 : Int) (a15 : Int) (a16 : Bool) (a17 : Int) (a18 : Int) (a19 : Bool) (a20 : Int) (a21 : Int) (a22 : Bool) (o : Int × Int × Int × Int × Int × Int) (z : Out) : Prop := Q0_p_query_Near_l0 a2 a5 a6 a7 a8 a9 a10 a11 a12 a13 a14 a15 a16 a17 a18 a19 a20 a21 a22 o z
theorem l_p_query_Near_l0 (L : Nat) (hL : L ≤ 4611686018427387904) (a2 : Int) (a5 : Int) (a6 : Int) (a7 : Bool) (a8 : Int) (a9 : Int) (a10 : Bool) (a11 : Int) (a12 : Int) (a13 : Bool) (a14 : Int) (a15 : Int) (a16 : Bool) (a17 : Int) (a18 : Int) (a19 : Bool) (a20 : Int) (a21 : Int) (a22 : Bool) : ∀ (tl n : Nat) (s4 : Int) (s32 : Int) (s33 : Int) (s34 : Int) (s35 : Int) (s36 : Int) (s37 : Int) (env : List V) (st : Store) (o : Int × Int × Int × Int × Int × Int), tl < n → Cnt 3 s4 tl → mask (maskOf en33.ms 0) env = sp 128 0 [(2, .d (.int .i64 a2)), (7, .p (0, 7) (st (0, 7)).ver 0 []), (9, .p (0, 9) (st (0, 9)).ver 0 []), (11, .d (.int .i64 s32)), (12, .d (.int .i64 s33)), (13, .d (.int .i64 s34)), (14, .d (.int .i64 s35)), (15, .d (.int .i64 s36)), (16, .d (.int .i64 s37)), (43, .d (.int .i64 s4))] → Bk (st (0, 7)) 168 [.d (.agg 168 [.agg 64 [.int .i64 a5, .int .i64 a6, .bool a7], .agg 64 [.int .i64 a8, .int .i64 a9, .bool a10], .agg 64 [.int .i64 a11, .int .i64 a12, .bool a13]])] → Bk (st (0, 9)) 168 [.d (.agg 168 [.agg 64 [.int .i64 a14, .int .i64 a15, .bool a16], .agg 64 [.int .i64 a17, .int .i64 a18, .bool a19], .agg 64 [.int .i64 a20, .int .i64 a21, .bool a22]])] → p_query_Near_l0 L a5 a6 a7 a8 a9 a10 a11 a12 a13 a14 a15 a16 a17 a18 a19 a20 a21 a22 tl s4 s32 s33 s34 s35 s36 s37 = some o →
    Q_p_query_Near_l0 a2 a5 a6 a7 a8 a9 a10 a11 a12 a13 a14 a15 a16 a17 a18 a19 a20 a21 a22 o (iter (evC Try.prog (G_query_Near L) (evF Try.prog (G_query_Near L) T_query_Near L 0) L en33.ms 0 0 lb33_0) (maskOf en33.ms 0) n env st) := by
  intro tl
  induction tl with
  | zero =>
    intro n s4 s32 s33 s34 s35 s36 s37 env st o hn hR he hb0 hb1 h
    obtain ⟨n, rfl⟩ : ∃ m, n = m + 1 := ⟨n - 1, by omega⟩
    obtain ⟨be0, bv0, bl0⟩ := hb0
    obtain ⟨be1, bv1, bl1⟩ := hb1
    generalize hQ : Q_p_query_Near_l0 a2 a5 a6 a7 a8 a9 a10 a11 a12 a13 a14 a15 a16 a17 a18 a19 a20 a21 a22 = Q
    have g0 := cnt_nil hR
    rw [iter, he]
    clear he
    generalize hK : iter _ _ n = K
    rw [p_query_Near_l0] at h
    revert h
    rintro ⟨⟩
    simp only [go_sem, Nat.reduceAdd, Nat.reduceSub, Nat.reduceMul, Nat.reduceEqDiff, Nat.reduceBEq, Nat.reduceLT, Nat.reduceLeDiff, Nat.reducePow, Int.reduceToNat, Int.reduceLT, Int.reduceLE, Int.reduceGT, Int.reduceGE, Int.reduceEq, Int.reduceNeg, Int.reduceAdd, Int.reduceSub, Int.reduceMul, ↓reduceIte, reduceCtorEq, *]
    subst hQ
    refine (⟨_, _, rfl, ?_⟩ : Q0_p_query_Near_l0 _ _ _ _ _ _ _ _ _ _ _ _ _ _ _ _ _ _ _ _ _)
    all_goals simp only [go_sem, Nat.reduceAdd, Nat.reduceSub, Nat.reduceMul, Nat.reduceEqDiff, Nat.reduceBEq, Nat.reduceLT, Nat.reduceLeDiff, Nat.reducePow, Int.reduceToNat, Int.reduceLT, Int.reduceLE, Int.reduceGT, Int.reduceGE, Int.reduceEq, Int.reduceNeg, Int.reduceAdd, Int.reduceSub, Int.reduceMul, ↓reduceIte, reduceCtorEq, *]
  | succ tl ih =>
    intro n s4 s32 s33 s34 s35 s36 s37 env st o hn hR he hb0 hb1 h
    obtain ⟨n, rfl⟩ : ∃ m, n = m + 1 := ⟨n - 1, by omega⟩
    obtain ⟨be0, bv0, bl0⟩ := hb0
    obtain ⟨be1, bv1, bl1⟩ := hb1
    generalize hQ : Q_p_query_Near_l0 a2 a5 a6 a7 a8 a9 a10 a11 a12 a13 a14 a15 a16 a17 a18 a19 a20 a21 a22 = Q at ih ⊢
    replace ih : Hold _ := ih
    replace hR := cnt_s hR
    obtain ⟨g0, g1, g3, hR⟩ := hR
    rw [iter, he]
    clear he
    generalize hK : iter _ _ n = K
    rw [p_query_Near_l0] at h
    revert h
    refine cb_i (fun c1 => ?_) (fun c1 => ?_)
    · have c2 : 0 ≤ s4 := by have := of_decide_eq_true c1; omega
      have c3 : s4 < 3 := by have := of_decide_eq_true c1; omega
      have c4 : s4.toNat = 0 := by have := of_decide_eq_true c1; omega
      refine bnd_i fun r47 c5 => ?_
      refine bnd_i fun r48 c6 => ?_
      refine bnd_i fun r49 c7 => ?_
      intro h
      simp only [go_sem, Nat.reduceAdd, Nat.reduceSub, Nat.reduceMul, Nat.reduceEqDiff, Nat.reduceBEq, Nat.reduceLT, Nat.reduceLeDiff, Nat.reducePow, Int.reduceToNat, Int.reduceLT, Int.reduceLE, Int.reduceGT, Int.reduceGE, Int.reduceEq, Int.reduceNeg, Int.reduceAdd, Int.reduceSub, Int.reduceMul, ↓reduceIte, reduceCtorEq, *]
      subst hK
      refine ih n (s4 + 1) (i64.wrap (s32 + r47.1)) (i64.wrap (s33 + r47.2)) (i64.wrap (s34 + r48.1)) (i64.wrap (s35 + r48.2)) (i64.wrap (s36 + r49.1)) (i64.wrap (s37 + r49.2)) _ _ _ (by omega) hR ?_ ?_ ?_ h
      all_goals simp only [go_sem, Nat.reduceAdd, Nat.reduceSub, Nat.reduceMul, Nat.reduceEqDiff, Nat.reduceBEq, Nat.reduceLT, Nat.reduceLeDiff, Nat.reducePow, Int.reduceToNat, Int.reduceLT, Int.reduceLE, Int.reduceGT, Int.reduceGE, Int.reduceEq, Int.reduceNeg, Int.reduceAdd, Int.reduceSub, Int.reduceMul, ↓reduceIte, reduceCtorEq, *]
    · refine cb_i (fun c8 => ?_) (fun c8 => ?_)
      · have c9 : 0 ≤ s4 := by have := of_decide_eq_true c8; omega
        have c10 : s4 < 3 := by have := of_decide_eq_true c8; omega
        have c11 : s4.toNat = 1 := by have := of_decide_eq_true c8; omega
        refine bnd_i fun r50 c12 => ?_
        refine bnd_i fun r51 c13 => ?_
        refine bnd_i fun r52 c14 => ?_
        intro h
        simp only [go_sem, Nat.reduceAdd, Nat.reduceSub, Nat.reduceMul, Nat.reduceEqDiff, Nat.reduceBEq, Nat.reduceLT, Nat.reduceLeDiff, Nat.reducePow, Int.reduceToNat, Int.reduceLT, Int.reduceLE, Int.reduceGT, Int.reduceGE, Int.reduceEq, Int.reduceNeg, Int.reduceAdd, Int.reduceSub, Int.reduceMul, ↓reduceIte, reduceCtorEq, *]
        subst hK
        refine ih n (s4 + 1) (i64.wrap (s32 + r50.1)) (i64.wrap (s33 + r50.2)) (i64.wrap (s34 + r51.1)) (i64.wrap (s35 + r51.2)) (i64.wrap (s36 + r52.1)) (i64.wrap (s37 + r52.2)) _ _ _ (by omega) hR ?_ ?_ ?_ h
        all_goals simp only [go_sem, Nat.reduceAdd, Nat.reduceSub, Nat.reduceMul, Nat.reduceEqDiff, Nat.reduceBEq, Nat.reduceLT, Nat.reduceLeDiff, Nat.reducePow, Int.reduceToNat, Int.reduceLT, Int.reduceLE, Int.reduceGT, Int.reduceGE, Int.reduceEq, Int.reduceNeg, Int.reduceAdd, Int.reduceSub, Int.reduceMul, ↓reduceIte, reduceCtorEq, *]
      · refine cb_i (fun c15 => ?_) (fun c15 => ?_)
        · have c16 : 0 ≤ s4 := by have := of_decide_eq_true c15; omega
          have c17 : s4 < 3 := by have := of_decide_eq_true c15; omega
          have c18 : s4.toNat = 2 := by have := of_decide_eq_true c15; omega
          refine bnd_i fun r53 c19 => ?_
          refine bnd_i fun r54 c20 => ?_
          refine bnd_i fun r55 c21 => ?_
          intro h
          simp only [go_sem, Nat.reduceAdd, Nat.reduceSub, Nat.reduceMul, Nat.reduceEqDiff, Nat.reduceBEq, Nat.reduceLT, Nat.reduceLeDiff, Nat.reducePow, Int.reduceToNat, Int.reduceLT, Int.reduceLE, Int.reduceGT, Int.reduceGE, Int.reduceEq, Int.reduceNeg, Int.reduceAdd, Int.reduceSub, Int.reduceMul, ↓reduceIte, reduceCtorEq, *]
          subst hK
          refine ih n (s4 + 1) (i64.wrap (s32 + r53.1)) (i64.wrap (s33 + r53.2)) (i64.wrap (s34 + r54.1)) (i64.wrap (s35 + r54.2)) (i64.wrap (s36 + r55.1)) (i64.wrap (s37 + r55.2)) _ _ _ (by omega) hR ?_ ?_ ?_ h
          all_goals simp only [go_sem, Nat.reduceAdd, Nat.reduceSub, Nat.reduceMul, Nat.reduceEqDiff, Nat.reduceBEq, Nat.reduceLT, Nat.reduceLeDiff, Nat.reducePow, Int.reduceToNat, Int.reduceLT, Int.reduceLE, Int.reduceGT, Int.reduceGE, Int.reduceEq, Int.reduceNeg, Int.reduceAdd, Int.reduceSub, Int.reduceMul, ↓reduceIte, reduceCtorEq, *]
        · intro h; cases h
theorem e_query_Near (L : Nat) (hL : L ≤ 4611686018427387904) (a0_0_0 : Int) (a0_0_1 : Int) (a0_0_2 : Bool) (a0_1_0 : Int) (a0_1_1 : Int) (a0_1_2 : Bool) (a0_2_0 : Int) (a0_2_1 : Int) (a0_2_2 : Bool) (a1_0_0 : Int) (a1_0_1 : Int) (a1_0_2 : Bool) (a1_1_0 : Int) (a1_1_1 : Int) (a1_1_2 : Bool) (a1_2_0 : Int) (a1_2_1 : Int) (a1_2_2 : Bool) (a2 : Int) (res : Int) (h : p_query_Near L a0_0_0 a0_0_1 a0_0_2 a0_1_0 a0_1_1 a0_1_2 a0_2_0 a0_2_1 a0_2_2 a1_0_0 a1_0_1 a1_0_2 a1_1_0 a1_1_1 a1_1_2 a1_2_0 a1_2_1 a1_2_2 a2 = some res) : evTop Try.prog (G_query_Near L) T_query_Near L 1 33 [.agg 66 [.agg 64 [.int .i64 a0_0_0, .int .i64 a0_0_1, .bool a0_0_2], .agg 64 [.int .i64 a0_1_0, .int .i64 a0_1_1, .bool a0_1_2], .agg 64 [.int .i64 a0_2_0, .int .i64 a0_2_1, .bool a0_2_2]], .agg 66 [.agg 64 [.int .i64 a1_0_0, .int .i64 a1_0_1, .bool a1_0_2], .agg 64 [.int .i64 a1_1_0, .int .i64 a1_1_1, .bool a1_1_2], .agg 64 [.int .i64 a1_2_0, .int .i64 a1_2_1, .bool a1_2_2]], .int .i64 a2] = some [.int .i64 res] := by
  revert h
  unfold p_query_Near evTop
  simp only [List.map]
  rw [evF_s (fn := Try.f33) (msk := en33.ms) (hT := by rfl) (hb := by rfl)]
  refine bnd_i fun r1 c1 => ?_
  refine bnd_i fun r2 c2 => ?_
  refine ite_i (fun c3 => ?_) (fun c3 => ?_)
  · rintro ⟨⟩
    simp only [go_sem, Nat.reduceAdd, Nat.reduceSub, Nat.reduceMul, Nat.reduceEqDiff, Nat.reduceBEq, Nat.reduceLT, Nat.reduceLeDiff, Nat.reducePow, Int.reduceToNat, Int.reduceLT, Int.reduceLE, Int.reduceGT, Int.reduceGE, Int.reduceEq, Int.reduceNeg, Int.reduceAdd, Int.reduceSub, Int.reduceMul, ↓reduceIte, reduceCtorEq, *]
  · refine ite_i (fun c4 => ?_) (fun c4 => ?_)
    · rintro ⟨⟩
      simp only [go_sem, Nat.reduceAdd, Nat.reduceSub, Nat.reduceMul, Nat.reduceEqDiff, Nat.reduceBEq, Nat.reduceLT, Nat.reduceLeDiff, Nat.reducePow, Int.reduceToNat, Int.reduceLT, Int.reduceLE, Int.reduceGT, Int.reduceGE, Int.reduceEq, Int.reduceNeg, Int.reduceAdd, Int.reduceSub, Int.reduceMul, ↓reduceIte, reduceCtorEq, *]
    · refine cb_i (fun c5 => ?_) (fun c5 => ?_)
      · refine cb_i (fun c6 => ?_) (fun c6 => ?_)
        · refine rq_i fun c7 => ?_
          refine bnd_i fun o56 ho8 => ?_
          intro h
          simp only [go_sem, Nat.reduceAdd, Nat.reduceSub, Nat.reduceMul, Nat.reduceEqDiff, Nat.reduceBEq, Nat.reduceLT, Nat.reduceLeDiff, Nat.reducePow, Int.reduceToNat, Int.reduceLT, Int.reduceLE, Int.reduceGT, Int.reduceGE, Int.reduceEq, Int.reduceNeg, Int.reduceAdd, Int.reduceSub, Int.reduceMul, ↓reduceIte, reduceCtorEq, *]
          generalize hz10 : iter _ _ _ _ _ = z9
          have hq11 : Q_p_query_Near_l0 a2 r1.1 r1.2.1 r1.2.2.1 r1.2.2.2.1 r1.2.2.2.2.1 r1.2.2.2.2.2.1 r1.2.2.2.2.2.2.1 r1.2.2.2.2.2.2.2.1 r1.2.2.2.2.2.2.2.2.1 r2.1 r2.2.1 r2.2.2.1 r2.2.2.2.1 r2.2.2.2.2.1 r2.2.2.2.2.2.1 r2.2.2.2.2.2.2.1 r2.2.2.2.2.2.2.2.1 r2.2.2.2.2.2.2.2.2.1 o56 z9 := by
            rw [← hz10]
            refine l_p_query_Near_l0 L hL a2 r1.1 r1.2.1 r1.2.2.1 r1.2.2.2.1 r1.2.2.2.2.1 r1.2.2.2.2.2.1 r1.2.2.2.2.2.2.1 r1.2.2.2.2.2.2.2.1 r1.2.2.2.2.2.2.2.2.1 r2.1 r2.2.1 r2.2.2.1 r2.2.2.2.1 r2.2.2.2.2.1 r2.2.2.2.2.2.1 r2.2.2.2.2.2.2.1 r2.2.2.2.2.2.2.2.1 r2.2.2.2.2.2.2.2.2.1 _ L 0 0 0 0 0 0 0 _ _ _ c7 (cnt_0 (by decide) (by decide)) ?_ ?_ ?_ ho8
            all_goals simp only [go_sem, Nat.reduceAdd, Nat.reduceSub, Nat.reduceMul, Nat.reduceEqDiff, Nat.reduceBEq, Nat.reduceLT, Nat.reduceLeDiff, Nat.reducePow, Int.reduceToNat, Int.reduceLT, Int.reduceLE, Int.reduceGT, Int.reduceGE, Int.reduceEq, Int.reduceNeg, Int.reduceAdd, Int.reduceSub, Int.reduceMul, ↓reduceIte, reduceCtorEq, *]
          clear hz10 ho8
          obtain ⟨_, st57, rfl, rfl⟩ := hq11
          revert h
          refine bnd_i fun r58 c12 => ?_
          refine bnd_i fun r59 c13 => ?_
          refine bnd_i fun r60 c14 => ?_
          refine bnd_i fun r61 c15 => ?_
          refine ite_i (fun c16 => ?_) (fun c16 => ?_)
          · refine ite_i (fun c17 => ?_) (fun c17 => ?_)
            · refine ite_i (fun c18 => ?_) (fun c18 => ?_)
              · refine bnd_i fun r62 c19 => ?_
                refine bnd_i fun r63 c20 => ?_
                refine bnd_i fun r64 c21 => ?_
                refine ite_i (fun c22 => ?_) (fun c22 => ?_)
                · rintro ⟨⟩
                  simp only [go_sem, Nat.reduceAdd, Nat.reduceSub, Nat.reduceMul, Nat.reduceEqDiff, Nat.reduceBEq, Nat.reduceLT, Nat.reduceLeDiff, Nat.reducePow, Int.reduceToNat, Int.reduceLT, Int.reduceLE, Int.reduceGT, Int.reduceGE, Int.reduceEq, Int.reduceNeg, Int.reduceAdd, Int.reduceSub, Int.reduceMul, ↓reduceIte, reduceCtorEq, *]
                · refine bnd_i fun r65 c23 => ?_
                  refine bnd_i fun r66 c24 => ?_
                  refine bnd_i fun r67 c25 => ?_
                  refine bnd_i fun r68 c26 => ?_
                  refine ite_i (fun c27 => ?_) (fun c27 => ?_)
                  · rintro ⟨⟩
                    simp only [go_sem, Nat.reduceAdd, Nat.reduceSub, Nat.reduceMul, Nat.reduceEqDiff, Nat.reduceBEq, Nat.reduceLT, Nat.reduceLeDiff, Nat.reducePow, Int.reduceToNat, Int.reduceLT, Int.reduceLE, Int.reduceGT, Int.reduceGE, Int.reduceEq, Int.reduceNeg, Int.reduceAdd, Int.reduceSub, Int.reduceMul, ↓reduceIte, reduceCtorEq, *]
                  · rintro ⟨⟩
                    simp only [go_sem, Nat.reduceAdd, Nat.reduceSub, Nat.reduceMul, Nat.reduceEqDiff, Nat.reduceBEq, Nat.reduceLT, Nat.reduceLeDiff, Nat.reducePow, Int.reduceToNat, Int.reduceLT, Int.reduceLE, Int.reduceGT, Int.reduceGE, Int.reduceEq, Int.reduceNeg, Int.reduceAdd, Int.reduceSub, Int.reduceMul, ↓reduceIte, reduceCtorEq, *]
              · refine bnd_i fun r69 c28 => ?_
                refine bnd_i fun r70 c29 => ?_
                refine bnd_i fun r71 c30 => ?_
                refine bnd_i fun r72 c31 => ?_
                refine ite_i (fun c32 => ?_) (fun c32 => ?_)
                · rintro ⟨⟩
                  simp only [go_sem, Nat.reduceAdd, Nat.reduceSub, Nat.reduceMul, Nat.reduceEqDiff, Nat.reduceBEq, Nat.reduceLT, Nat.reduceLeDiff, Nat.reducePow, Int.reduceToNat, Int.reduceLT, Int.reduceLE, Int.reduceGT, Int.reduceGE, Int.reduceEq, Int.reduceNeg, Int.reduceAdd, Int.reduceSub, Int.reduceMul, ↓reduceIte, reduceCtorEq, *]
                · rintro ⟨⟩
                  simp only [go_sem, Nat.reduceAdd, Nat.reduceSub, Nat.reduceMul, Nat.reduceEqDiff, Nat.reduceBEq, Nat.reduceLT, Nat.reduceLeDiff, Nat.reducePow, Int.reduceToNat, Int.reduceLT, Int.reduceLE, Int.reduceGT, Int.reduceGE, Int.reduceEq, Int.reduceNeg, Int.reduceAdd, Int.reduceSub, Int.reduceMul, ↓reduceIte, reduceCtorEq, *]
            · refine bnd_i fun r73 c33 => ?_
              refine bnd_i fun r74 c34 => ?_
              refine bnd_i fun r75 c35 => ?_
              refine bnd_i fun r76 c36 => ?_
              refine ite_i (fun c37 => ?_) (fun c37 => ?_)
              · rintro ⟨⟩
                simp only [go_sem, Nat.reduceAdd, Nat.reduceSub, Nat.reduceMul, Nat.reduceEqDiff, Nat.reduceBEq, Nat.reduceLT, Nat.reduceLeDiff, Nat.reducePow, Int.reduceToNat, Int.reduceLT, Int.reduceLE, Int.reduceGT, Int.reduceGE, Int.reduceEq, Int.reduceNeg, Int.reduceAdd, Int.reduceSub, Int.reduceMul, ↓reduceIte, reduceCtorEq, *]
              · rintro ⟨⟩
                simp only [go_sem, Nat.reduceAdd, Nat.reduceSub, Nat.reduceMul, Nat.reduceEqDiff, Nat.reduceBEq, Nat.reduceLT, Nat.reduceLeDiff, Nat.reducePow, Int.reduceToNat, Int.reduceLT, Int.reduceLE, Int.reduceGT, Int.reduceGE, Int.reduceEq, Int.reduceNeg, Int.reduceAdd, Int.reduceSub, Int.reduceMul, ↓reduceIte, reduceCtorEq, *]
          · refine ite_i (fun c38 => ?_) (fun c38 => ?_)
            · refine ite_i (fun c39 => ?_) (fun c39 => ?_)
              · refine bnd_i fun r77 c40 => ?_
                refine bnd_i fun r78 c41 => ?_
                refine bnd_i fun r79 c42 => ?_
                refine ite_i (fun c43 => ?_) (fun c43 => ?_)
                · rintro ⟨⟩
                  simp only [go_sem, Nat.reduceAdd, Nat.reduceSub, Nat.reduceMul, Nat.reduceEqDiff, Nat.reduceBEq, Nat.reduceLT, Nat.reduceLeDiff, Nat.reducePow, Int.reduceToNat, Int.reduceLT, Int.reduceLE, Int.reduceGT, Int.reduceGE, Int.reduceEq, Int.reduceNeg, Int.reduceAdd, Int.reduceSub, Int.reduceMul, ↓reduceIte, reduceCtorEq, *]
                · refine bnd_i fun r80 c44 => ?_
                  refine bnd_i fun r81 c45 => ?_
                  refine bnd_i fun r82 c46 => ?_
                  refine bnd_i fun r83 c47 => ?_
                  refine ite_i (fun c48 => ?_) (fun c48 => ?_)
                  · rintro ⟨⟩
                    simp only [go_sem, Nat.reduceAdd, Nat.reduceSub, Nat.reduceMul, Nat.reduceEqDiff, Nat.reduceBEq, Nat.reduceLT, Nat.reduceLeDiff, Nat.reducePow, Int.reduceToNat, Int.reduceLT, Int.reduceLE, Int.reduceGT, Int.reduceGE, Int.reduceEq, Int.reduceNeg, Int.reduceAdd, Int.reduceSub, Int.reduceMul, ↓reduceIte, reduceCtorEq, *]
                  · rintro ⟨⟩
                    simp only [go_sem, Nat.reduceAdd, Nat.reduceSub, Nat.reduceMul, Nat.reduceEqDiff, Nat.reduceBEq, Nat.reduceLT, Nat.reduceLeDiff, Nat.reducePow, Int.reduceToNat, Int.reduceLT, Int.reduceLE, Int.reduceGT, Int.reduceGE, Int.reduceEq, Int.reduceNeg, Int.reduceAdd, Int.reduceSub, Int.reduceMul, ↓reduceIte, reduceCtorEq, *]
              · refine bnd_i fun r84 c49 => ?_
                refine bnd_i fun r85 c50 => ?_
                refine bnd_i fun r86 c51 => ?_
                refine bnd_i fun r87 c52 => ?_
                refine ite_i (fun c53 => ?_) (fun c53 => ?_)
                · rintro ⟨⟩
                  simp only [go_sem, Nat.reduceAdd, Nat.reduceSub, Nat.reduceMul, Nat.reduceEqDiff, Nat.reduceBEq, Nat.reduceLT, Nat.reduceLeDiff, Nat.reducePow, Int.reduceToNat, Int.reduceLT, Int.reduceLE, Int.reduceGT, Int.reduceGE, Int.reduceEq, Int.reduceNeg, Int.reduceAdd, Int.reduceSub, Int.reduceMul, ↓reduceIte, reduceCtorEq, *]
                · rintro ⟨⟩
                  simp only [go_sem, Nat.reduceAdd, Nat.reduceSub, Nat.reduceMul, Nat.reduceEqDiff, Nat.reduceBEq, Nat.reduceLT, Nat.reduceLeDiff, Nat.reducePow, Int.reduceToNat, Int.reduceLT, Int.reduceLE, Int.reduceGT, Int.reduceGE, Int.reduceEq, Int.reduceNeg, Int.reduceAdd, Int.reduceSub, Int.reduceMul, ↓reduceIte, reduceCtorEq, *]
            · refine bnd_i fun r88 c54 => ?_
              refine bnd_i fun r89 c55 => ?_
              refine bnd_i fun r90 c56 => ?_
              refine bnd_i fun r91 c57 => ?_
              refine ite_i (fun c58 => ?_) (fun c58 => ?_)
              · rintro ⟨⟩
                simp only [go_sem, Nat.reduceAdd, Nat.reduceSub, Nat.reduceMul, Nat.reduceEqDiff, Nat.reduceBEq, Nat.reduceLT, Nat.reduceLeDiff, Nat.reducePow, Int.reduceToNat, Int.reduceLT, Int.reduceLE, Int.reduceGT, Int.reduceGE, Int.reduceEq, Int.reduceNeg, Int.reduceAdd, Int.reduceSub, Int.reduceMul, ↓reduceIte, reduceCtorEq, *]
              · rintro ⟨⟩
                simp only [go_sem, Nat.reduceAdd, Nat.reduceSub, Nat.reduceMul, Nat.reduceEqDiff, Nat.reduceBEq, Nat.reduceLT, Nat.reduceLeDiff, Nat.reducePow, Int.reduceToNat, Int.reduceLT, Int.reduceLE, Int.reduceGT, Int.reduceGE, Int.reduceEq, Int.reduceNeg, Int.reduceAdd, Int.reduceSub, Int.reduceMul, ↓reduceIte, reduceCtorEq, *]
        · rintro ⟨⟩
          simp only [go_sem, Nat.reduceAdd, Nat.reduceSub, Nat.reduceMul, Nat.reduceEqDiff, Nat.reduceBEq, Nat.reduceLT, Nat.reduceLeDiff, Nat.reducePow, Int.reduceToNat, Int.reduceLT, Int.reduceLE, Int.reduceGT, Int.reduceGE, Int.reduceEq, Int.reduceNeg, Int.reduceAdd, Int.reduceSub, Int.reduceMul, ↓reduceIte, reduceCtorEq, *]
      · rintro ⟨⟩
        simp only [go_sem, Nat.reduceAdd, Nat.reduceSub, Nat.reduceMul, Nat.reduceEqDiff, Nat.reduceBEq, Nat.reduceLT, Nat.reduceLeDiff, Nat.reducePow, Int.reduceToNat, Int.reduceLT, Int.reduceLE, Int.reduceGT, Int.reduceGE, Int.reduceEq, Int.reduceNeg, Int.reduceAdd, Int.reduceSub, Int.reduceMul, ↓reduceIte, reduceCtorEq, *]
noncomputable def s_query_Near (L : Nat) : Ev.Spec := specP (cCons k66 (cCons k66 (cCons (cI .i64) cNil))) (fun x => p_query_Near L x.1.1.1 x.1.1.2.1 x.1.1.2.2.1 x.1.2.1.1 x.1.2.1.2.1 x.1.2.1.2.2.1 x.1.2.2.1.1 x.1.2.2.1.2.1 x.1.2.2.1.2.2.1 x.2.1.1.1 x.2.1.1.2.1 x.2.1.1.2.2.1 x.2.1.2.1.1 x.2.1.2.1.2.1 x.2.1.2.1.2.2.1 x.2.1.2.2.1.1 x.2.1.2.2.1.2.1 x.2.1.2.2.1.2.2.1 x.2.2.1) (fun r => [.int .i64 r])
theorem s_query_Near_run (L : Nat) (a0_0_0 : Int) (a0_0_1 : Int) (a0_0_2 : Bool) (a0_1_0 : Int) (a0_1_1 : Int) (a0_1_2 : Bool) (a0_2_0 : Int) (a0_2_1 : Int) (a0_2_2 : Bool) (a1_0_0 : Int) (a1_0_1 : Int) (a1_0_2 : Bool) (a1_1_0 : Int) (a1_1_1 : Int) (a1_1_2 : Bool) (a1_2_0 : Int) (a1_2_1 : Int) (a1_2_2 : Bool) (a2 : Int) : (s_query_Near L).run [.agg 66 [.agg 64 [.int .i64 a0_0_0, .int .i64 a0_0_1, .bool a0_0_2], .agg 64 [.int .i64 a0_1_0, .int .i64 a0_1_1, .bool a0_1_2], .agg 64 [.int .i64 a0_2_0, .int .i64 a0_2_1, .bool a0_2_2]], .agg 66 [.agg 64 [.int .i64 a1_0_0, .int .i64 a1_0_1, .bool a1_0_2], .agg 64 [.int .i64 a1_1_0, .int .i64 a1_1_1, .bool a1_1_2], .agg 64 [.int .i64 a1_2_0, .int .i64 a1_2_1, .bool a1_2_2]], .int .i64 a2] = (p_query_Near L a0_0_0 a0_0_1 a0_0_2 a0_1_0 a0_1_1 a0_1_2 a0_2_0 a0_2_1 a0_2_2 a1_0_0 a1_0_1 a1_0_2 a1_1_0 a1_1_1 a1_1_2 a1_2_0 a1_2_1 a1_2_2 a2).map fun r => [.int .i64 r] := specP_run (cCons k66 (cCons k66 (cCons (cI .i64) cNil))) (fun x => p_query_Near L x.1.1.1 x.1.1.2.1 x.1.1.2.2.1 x.1.2.1.1 x.1.2.1.2.1 x.1.2.1.2.2.1 x.1.2.2.1.1 x.1.2.2.1.2.1 x.1.2.2.1.2.2.1 x.2.1.1.1 x.2.1.1.2.1 x.2.1.1.2.2.1 x.2.1.2.1.1 x.2.1.2.1.2.1 x.2.1.2.1.2.2.1 x.2.1.2.2.1.1 x.2.1.2.2.1.2.1 x.2.1.2.2.1.2.2.1 x.2.2.1) (fun r => [.int .i64 r]) (((a0_0_0, a0_0_1, a0_0_2, ()), (a0_1_0, a0_1_1, a0_1_2, ()), (a0_2_0, a0_2_1, a0_2_2, ()), ()), ((a1_0_0, a1_0_1, a1_0_2, ()), (a1_1_0, a1_1_1, a1_1_2, ()), (a1_2_0, a1_2_1, a1_2_2, ()), ()), a2, ())
theorem ok_query_Near (L : Nat) (hL : L ≤ 4611686018427387904) : SpecOk Try.prog 33 (s_query_Near L) := specP_ok mixed (Go_query_Near L hL) (To_query_Near L) fun x r h => ⟨L, 1, e_query_Near L hL x.1.1.1 x.1.1.2.1 x.1.1.2.2.1 x.1.2.1.1 x.1.2.1.2.1 x.1.2.1.2.2.1 x.1.2.2.1.1 x.1.2.2.1.2.1 x.1.2.2.1.2.2.1 x.2.1.1.1 x.2.1.1.2.1 x.2.1.1.2.2.1 x.2.1.2.1.1 x.2.1.2.1.2.1 x.2.1.2.1.2.2.1 x.2.1.2.2.1.1 x.2.1.2.2.1.2.1 x.2.1.2.2.1.2.2.1 x.2.2.1 r h⟩
def sk_query_Near : Ev.Spec := specK (c := (cCons k66 (cCons k66 (cCons (cI .i64) cNil)))) (dCons (dA 66 (dCons (dA 64 (dCons (dI .i64) (dCons (dI .i64) (dCons dB dNil)))) (dCons (dA 64 (dCons (dI .i64) (dCons (dI .i64) (dCons dB dNil)))) (dCons (dA 64 (dCons (dI .i64) (dCons (dI .i64) (dCons dB dNil)))) dNil)))) (dCons (dA 66 (dCons (dA 64 (dCons (dI .i64) (dCons (dI .i64) (dCons dB dNil)))) (dCons (dA 64 (dCons (dI .i64) (dCons (dI .i64) (dCons dB dNil)))) (dCons (dA 64 (dCons (dI .i64) (dCons (dI .i64) (dCons dB dNil)))) dNil)))) (dCons (dI .i64) dNil))) (fun x => p_query_Near 1000 x.1.1.1 x.1.1.2.1 x.1.1.2.2.1 x.1.2.1.1 x.1.2.1.2.1 x.1.2.1.2.2.1 x.1.2.2.1.1 x.1.2.2.1.2.1 x.1.2.2.1.2.2.1 x.2.1.1.1 x.2.1.1.2.1 x.2.1.1.2.2.1 x.2.1.2.1.1 x.2.1.2.1.2.1 x.2.1.2.1.2.2.1 x.2.1.2.2.1.1 x.2.1.2.2.1.2.1 x.2.1.2.2.1.2.2.1 x.2.2.1) (fun r => [.int .i64 r])
theorem okk_query_Near : SpecOk Try.prog 33 sk_query_Near := specK_ok (dCons (dA 66 (dCons (dA 64 (dCons (dI .i64) (dCons (dI .i64) (dCons dB dNil)))) (dCons (dA 64 (dCons (dI .i64) (dCons (dI .i64) (dCons dB dNil)))) (dCons (dA 64 (dCons (dI .i64) (dCons (dI .i64) (dCons dB dNil)))) dNil)))) (dCons (dA 66 (dCons (dA 64 (dCons (dI .i64) (dCons (dI .i64) (dCons dB dNil)))) (dCons (dA 64 (dCons (dI .i64) (dCons (dI .i64) (dCons dB dNil)))) (dCons (dA 64 (dCons (dI .i64) (dCons (dI .i64) (dCons dB dNil)))) dNil)))) (dCons (dI .i64) dNil))) mixed (Go_query_Near 1000 (by decide)) (To_query_Near 1000) fun x r h => ⟨1000, 1, e_query_Near 1000 (by decide) x.1.1.1 x.1.1.2.1 x.1.1.2.2.1 x.1.2.1.1 x.1.2.1.2.1 x.1.2.1.2.2.1 x.1.2.2.1.1 x.1.2.2.1.2.1 x.1.2.2.1.2.2.1 x.2.1.1.1 x.2.1.1.2.1 x.2.1.1.2.2.1 x.2.1.2.1.1 x.2.1.2.1.2.1 x.2.1.2.1.2.2.1 x.2.1.2.2.1.1 x.2.1.2.2.1.2.1 x.2.1.2.2.1.2.2.1 x.2.2.1 r h⟩
end Go.Proofs.Ytnojehmbiceceaa.P
end
section
set_option linter.unusedVariables false
set_option linter.unusedSimpArgs false
set_option maxRecDepth 100000
namespace Go.Proofs.Ytnojehmbiceceaa.P
open Go.Ev Go.IntKind Go.Proofs.Ytnojehmbiceceaa Go.Proofs.Ytnojehmbiceceaa.Ty Go.Proofs.Ytnojehmbiceceaa.E
def p_spylaw3_queries (L : Nat) : Option Bool := some true
attribute [local go_sem] Ev.putR_s Ev.putR_0 Ev.thenO_s Ev.thenO_0 Ev.seqR_n Ev.seqR_e Ev.seqR_r Ev.seqR_0 Ev.blkR_e Ev.blkR_n Ev.blkR_r Ev.blkR_0 Ev.normR_s Ev.normR_0 Ev.outR_r Ev.outR_n Ev.outR_0 Ev.retS_s Ev.retS_0 Ev.pureO_s Ev.pureO_0 Ev.topR_0 Ev.topR_t Ev.topR_t0 Ev.oneL_0 Ev.oneL_s Ev.topR_d Ev.topR_nils Ev.topR_agg Ev.topR_rs Ev.evOp_move Ev.evOp_assign Ev.evOp_pick Ev.evOp_alloc Ev.evOp_box Ev.evOp_build Ev.evOp_buildSlice Ev.evOp_load Ev.evOp_store Ev.evOp_makeMap Ev.evOp_lookup Ev.evOp_mapUpdate Ev.evOp_insert Ev.evOp_nilCheck Ev.evOp_binOp Ev.evOp_unOp Ev.evOp_convert Ev.evOp_makeFunc Ev.evOp_makeSlice Ev.evOp_slice Ev.evOp_fieldAddr Ev.evOp_field Ev.evOp_indexAddr Ev.evOp_index Ev.evOp_extract Ev.evOp_call Ev.evOp_append Ev.evOp_clear Ev.evOp_len Ev.evOp_min Ev.evOp_max Ev.condR_b Ev.condR_t Ev.evOps_nil Ev.evOps_plain Ev.evOps_guard Ev.runG_eq Ev.skipG_eq Ev.condL_tt Ev.condL_ff Ev.condL_tf Ev.condL_ft Ev.condL_u Ev.condC_t Ev.condC_f Ev.evC_skip Ev.evC_ret Ev.evC_exit Ev.evC_label Ev.evC_region Ev.evC_draw Ev.evC_seq Ev.evC_cond Ev.evC_block Ev.evC_loop Ev.fin_d Ev.fin_nils Ev.fin_agg_ Ev.fin_rs Ev.finS_s Ev.mapO_fin Ev.upd_upd Ev.argv_d Ev.argv_nils Ev.argv_agg Ev.argv_rs Ev.argv_p Ev.fk_low Ev.appendTo_nils Ev.appendTo_rs Ev.consV_d Ev.consV_agg Ev.consV_p Ev.consV_rs Ev.consV_nils Ev.consV_fn Ev.consV_und Ev.consV_jk Ev.consV_grown Ev.topR_grown Ev.len_grown Ev.consV_mp Ev.sameK_i Ev.sameK_s Ev.mget_0 Ev.mget_hit Ev.mget_miss Ev.mput_0 Ev.mput_hit Ev.mput_miss Ev.apartAll Ev.apartL Ev.apartV Ev.freeAll Ev.sel Ev.keyOfV Ev.evLookup Ev.evPut Ev.hintOk Ev.keyOk Ev.consP Ev.lookV Ev.guardV Ev.dstAt Ev.evPure Ev.evStore Ev.evBin Ev.evBinO Ev.evNil Ev.isNilC Ev.evUn Ev.evConv Ev.evSlice Ev.optI Ev.foldI Ev.capsOk Ev.noTup Ev.nth Ev.setN Ev.killAt Ev.pad Ev.V.get Ev.V.put Ev.putD Ev.newBlk Ev.upd Ev.keq Ev.empty Ev.evCall Ev.V.args Ev.argP Ev.callOf Ev.evNilP Ev.isNilP Ev.look Ev.V.view.views Ev.V.view Ev.V.toD Ev.V.toD.V.toDs Ev.V.pure.pures Ev.V.pure Ev.D.flat.flats Ev.D.flat Ev.mkAgg Ev.allD Ev.aggParts Ev.setParts Ev.setElems Ev.getPath Ev.setPath Ev.subL Ev.eqD Ev.eqD.eqDs Ev.and2 Ev.strCut Ev.evalT Ev.constT Ev.evArgs Ev.mask Ev.maskOf Ev.tableOf Ev.compT Ev.resV Ev.retV Ev.mapO Ev.frzO_n Ev.frzO_e Ev.frzO_r Ev.frzO_0 Ev.mb_z Ev.mb_0 Ev.mb_s Ev.frzL_t Ev.frzL_f Ev.frzL_0 Ev.frzT_nils Ev.frzT_rs Ev.frzT_p Ev.frzK_i Ev.keyIn_i Ev.rI_nil Ev.rI_cons Ev.rI_row Ev.rI_app Ev.r_d Ev.r_nils Ev.r_agg Ev.r_rs Ev.r_gl Ev.vw_row Ev.vw_app Ev.appO_s Ev.frzT_gl Ev.allD_gl Ev.killAt_i Ev.tkOne_i Ev.hT_agg Ev.hT_vagg Ev.hT_int Ev.hT_bool Ev.hT_str Ev.hT_sl Ev.hT_ptr Ev.hT_np Ev.hT_p Ev.hT_rs Ev.hT_mp Ev.hT_nils Ev.hT_fn Ev.hT_jk Ev.hT_gl Ev.eO_sl Ev.eO_nils Ev.eO_rs Ev.eT_sl Ev.eT_rs Ev.pL_str Ev.pL_sl Ev.pL_rs Ev.pL_nils Ev.pL_min Ev.pL_max Ev.len_glB Ev.noTup_gl Ev.rowV_len Ev.rowV_nil Ev.rowV_cons Ev.rowV_append Ev.rowV_set Ev.rowV_replicate Ev.nth_row Ev.row_take Ev.row_drop Ev.toDs_row Ev.fin_row Ev.map_row Ev.map_take_ Ev.map_drop_ Ev.Bk_i Ev.GlB_0 Ev.GlB_mk Ev.gl_nil Ev.gl_cons Ev.gl_snoc Ev.gl_setN Ev.appendTo_gl Ev.consV_gl Ev.elems_gl Ev.fin_gl Ev.view_gl Ev.argv_gl Ev.topR_gl Ev.sp_z Ev.sp_0 Ev.sp_s Ev.km_z Ev.km_0 Ev.km_s Ev.beq_toList Ev.nc0 Ev.bq_t Ev.bq_f Ev.bodyN Ev.le_maxRow Int.cast_ofNat_Int IntWalk.i64_in IntWalk.u64_in IntWalk.u8_in beq_self_eq_true Bool.true_beq Bool.false_beq Bool.and_true Bool.true_and Bool.false_and Bool.and_false Bool.and_self Bool.not_true Bool.not_false Bool.not_eq_true cond_true cond_false if_true if_false and_true true_and and_self decide_true decide_false Bool.or_true Bool.true_or Bool.or_false Bool.false_or List.isEmpty List.isEmpty_nil List.size_toArray List.map List.length_map List.length_cons List.length_nil Option.map Option.bind Option.getD Option.isSome List.replicate Bool.false_eq_true implies_true false_implies forall_const Array.toList Array.isEmpty List.append List.nil_append List.cons_append List.drop_zero List.take_length List.take_succ_cons List.take_zero List.take_nil List.getElem?_map List.getElem?_cons_zero List.getElem?_cons_succ List.getElem?_nil List.append_nil eq_self Int.toNat_natCast List.length_append Nat.zero_add Nat.add_zero List.length_replicate Nat.sub_zero Option.map_some Option.map_none Int.le_refl Nat.le_refl Int.natCast_nonneg List.map_append
def Gk_spylaw3_queries : Specs := [(33, sk_query_Near), (100, sk_cmp_Or_Errno), (126, sk_catalog_ends_Quanta), (127, sk_catalog_ends_Tick), (188, sk_query_between_Tick), (189, sk_query_between_Quanta), (190, sk_query_point)]
noncomputable def T_spylaw3_queries : Table := tableOf [(32, en32), (35, en35), (37, en37), (41, en41), (45, en45), (105, en105), (119, en119), (121, en121), (125, en125), (181, en181), (193, en193), (227, en227), (258, en258), (265, en265)]
theorem Gko_spylaw3_queries : ∀ g s, Ev.look Gk_spylaw3_queries g = some s → SpecOk Try.prog g s := (specs_cons okk_query_Near (specs_cons okk_cmp_Or_Errno (specs_cons okk_catalog_ends_Quanta (specs_cons okk_catalog_ends_Tick (specs_cons okk_query_between_Tick (specs_cons okk_query_between_Quanta (specs_cons okk_query_point specs_nil)))))))
theorem To_spylaw3_queries : TableOk Try.prog (Gk_spylaw3_queries.map (·.1)) T_spylaw3_queries := (table_cons Try.func32 (by kernel_rfl) (by kernel_rfl) (table_cons Try.func35 (by kernel_rfl) (by kernel_rfl) (table_cons Try.func37 (by kernel_rfl) (by kernel_rfl) (table_cons Try.func41 (by kernel_rfl) (by kernel_rfl) (table_cons Try.func45 (by kernel_rfl) (by kernel_rfl) (table_cons Try.func105 (by kernel_rfl) (by kernel_rfl) (table_cons Try.func119 (by kernel_rfl) (by kernel_rfl) (table_cons Try.func121 (by kernel_rfl) (by kernel_rfl) (table_cons Try.func125 (by kernel_rfl) (by kernel_rfl) (table_cons Try.func181 (by kernel_rfl) (by kernel_rfl) (table_cons Try.func193 (by kernel_rfl) (by kernel_rfl) (table_cons Try.func227 (by kernel_rfl) (by kernel_rfl) (table_cons Try.func258 (by kernel_rfl) (by kernel_rfl) (table_cons Try.func265 (by kernel_rfl) (by kernel_rfl) table_nil))))))))))))))
theorem ek_spylaw3_queries : evTop Try.prog Gk_spylaw3_queries T_spylaw3_queries 1000 40 32 [] = some [.bool true] := by kernel_rfl
def s_spylaw3_queries (L : Nat) : Ev.Spec := ⟨fun xs => match xs with | [] => some [.bool true] | _ => none⟩
theorem s_spylaw3_queries_run (L : Nat) : (s_spylaw3_queries L).run [] = (p_spylaw3_queries L).map fun r => [.bool r] := rfl
theorem ok_spylaw3_queries (L : Nat) (hL : L ≤ 4611686018427387904) : SpecOk Try.prog 32 (s_spylaw3_queries L) := spec_of_ev mixed Gko_spylaw3_queries To_spylaw3_queries fun xs rs hr => by
  simp only [s_spylaw3_queries] at hr
  split at hr
  · cases hr; exact ⟨1000, 40, ek_spylaw3_queries⟩
  · cases hr
end Go.Proofs.Ytnojehmbiceceaa.P
end
section
set_option linter.unusedVariables false
set_option linter.unusedSimpArgs false
set_option maxRecDepth 100000
namespace Go.Proofs.Ytnojehmbiceceaa.E
open Go.Ev
noncomputable def en34 : Entry := ⟨Try.f34, [(0, mb 113 0 [2, 7, 9, 11, 12, 45]), (2, mb 113 0 [2, 7, 9, 11, 12, 13, 14, 45, 50, 51, 52]), (4, mb 113 0 [2, 7, 9, 11, 12, 13, 14, 16, 45, 50, 51, 52, 58, 59, 60]), (1000001, mb 113 0 [2, 7, 9, 11, 12]), (1000002, mb 113 0 [2, 7, 9, 11, 12, 45]), (1000003, mb 113 0 [2, 7, 9, 11, 12, 14, 45]), (1000004, mb 113 0 [2, 7, 9, 11, 12, 13, 14, 45, 50, 51, 52]), (1000005, mb 113 0 [2, 7, 9, 11, 12, 13, 14, 45, 50, 51, 52]), (1000006, mb 113 0 [2, 7, 9, 11, 12, 13, 14, 16, 45, 50, 51, 52, 58, 59, 60]), (1000000, mb 113 0 [6])]⟩
theorem mk34_0 (vs : List V) : mask (maskOf en34.ms 0) vs = km 113 0 [2, 7, 9, 11, 12, 45] vs := mask_mb _ _ _ _
theorem mk34_2 (vs : List V) : mask (maskOf en34.ms 2) vs = km 113 0 [2, 7, 9, 11, 12, 13, 14, 45, 50, 51, 52] vs := mask_mb _ _ _ _
theorem mk34_4 (vs : List V) : mask (maskOf en34.ms 4) vs = km 113 0 [2, 7, 9, 11, 12, 13, 14, 16, 45, 50, 51, 52, 58, 59, 60] vs := mask_mb _ _ _ _
theorem mk34_1000001 (vs : List V) : mask (maskOf en34.ms 1000001) vs = km 113 0 [2, 7, 9, 11, 12] vs := mask_mb _ _ _ _
theorem mk34_1000002 (vs : List V) : mask (maskOf en34.ms 1000002) vs = km 113 0 [2, 7, 9, 11, 12, 45] vs := mask_mb _ _ _ _
theorem mk34_1000003 (vs : List V) : mask (maskOf en34.ms 1000003) vs = km 113 0 [2, 7, 9, 11, 12, 14, 45] vs := mask_mb _ _ _ _
theorem mk34_1000004 (vs : List V) : mask (maskOf en34.ms 1000004) vs = km 113 0 [2, 7, 9, 11, 12, 13, 14, 45, 50, 51, 52] vs := mask_mb _ _ _ _
theorem mk34_1000005 (vs : List V) : mask (maskOf en34.ms 1000005) vs = km 113 0 [2, 7, 9, 11, 12, 13, 14, 45, 50, 51, 52] vs := mask_mb _ _ _ _
theorem mk34_1000006 (vs : List V) : mask (maskOf en34.ms 1000006) vs = km 113 0 [2, 7, 9, 11, 12, 13, 14, 16, 45, 50, 51, 52, 58, 59, 60] vs := mask_mb _ _ _ _
theorem mk34_1000000 (vs : List V) : mask (maskOf en34.ms 1000000) vs = km 113 0 [6] vs := mask_mb _ _ _ _
theorem fz34_0 (lv : Nat) (f : Run) : frzF en34.ms lv 0 f = f := nr rfl
theorem fi34_0 (lv : Nat) (env : List V) (st : Store) (q : Store → Out) : frzI en34.ms lv 0 env st q = q st := nr rfl
theorem fz34_2 (lv : Nat) (f : Run) : frzF en34.ms lv 2 f = f := nr rfl
theorem fi34_2 (lv : Nat) (env : List V) (st : Store) (q : Store → Out) : frzI en34.ms lv 2 env st q = q st := nr rfl
theorem fz34_4 (lv : Nat) (f : Run) : frzF en34.ms lv 4 f = f := nr rfl
theorem fi34_4 (lv : Nat) (env : List V) (st : Store) (q : Store → Out) : frzI en34.ms lv 4 env st q = q st := nr rfl
noncomputable def lb34_0 : Code := loopN Try.f34 0
noncomputable def lb34_2 : Code := loopN Try.f34 1
noncomputable def lb34_4 : Code := loopN Try.f34 2
end Go.Proofs.Ytnojehmbiceceaa.E
end
section
set_option linter.unusedVariables false
set_option linter.unusedSimpArgs false
set_option maxRecDepth 100000
namespace Go.Proofs.Ytnojehmbiceceaa.E
open Go.Ev
noncomputable def en112 : Entry := ⟨Try.f112, [(0, mb 62 0 [2, 4, 13, 14]), (1000001, mb 62 0 [2, 4]), (1000002, mb 62 0 [2, 4, 13, 14]), (1000000, mb 62 0 [2, 3]), (6000000, mb 62 0 [4]), (7000000, mb 62 0 [43])]⟩
theorem mk112_0 (vs : List V) : mask (maskOf en112.ms 0) vs = km 62 0 [2, 4, 13, 14] vs := mask_mb _ _ _ _
theorem mk112_1000001 (vs : List V) : mask (maskOf en112.ms 1000001) vs = km 62 0 [2, 4] vs := mask_mb _ _ _ _
theorem mk112_1000002 (vs : List V) : mask (maskOf en112.ms 1000002) vs = km 62 0 [2, 4, 13, 14] vs := mask_mb _ _ _ _
theorem mk112_1000000 (vs : List V) : mask (maskOf en112.ms 1000000) vs = km 62 0 [2, 3] vs := mask_mb _ _ _ _
def fk112_0 : List Bool := mb 62 0 [43]
theorem fz112_0 (lv : Nat) (f : Run) : frzF en112.ms lv 0 f = fun env st => frzO lv (mb 62 0 [4]) fk112_0 (f env st) := nr rfl
theorem fi112_0 (lv : Nat) (env : List V) (st : Store) (q : Store → Out) : frzI en112.ms lv 0 env st q = (match frzL st lv fk112_0 (mb 62 0 [4]) env st with | some st' => q (killL lv fk112_0 0 st') | none => none) := nr rfl
theorem kq112_0 (lv : Nat) (st : Store) : killL lv fk112_0 0 st = killAt (st) (lv, 43) := nr rfl
theorem gd112_0_1 : fk112_0.getD 1 false = false := by kernel_rfl
theorem gd112_0_2 : fk112_0.getD 2 false = false := by kernel_rfl
theorem gd112_0_4 : fk112_0.getD 4 false = false := by kernel_rfl
theorem gd112_0_6 : fk112_0.getD 6 false = false := by kernel_rfl
theorem gd112_0_43 : fk112_0.getD 43 false = true := by kernel_rfl
theorem gd112_0_57 : fk112_0.getD 57 false = false := by kernel_rfl
theorem gd112_0_58 : fk112_0.getD 58 false = false := by kernel_rfl
noncomputable def lb112_0 : Code := loopN Try.f112 0
end Go.Proofs.Ytnojehmbiceceaa.E
end
section
set_option linter.unusedVariables false
set_option linter.unusedSimpArgs false
set_option maxRecDepth 100000
namespace Go.Proofs.Ytnojehmbiceceaa.P
open Go.Ev Go.IntKind Go.Proofs.Ytnojehmbiceceaa Go.Proofs.Ytnojehmbiceceaa.Ty Go.Proofs.Ytnojehmbiceceaa.E
def p_spyref3_ends_l0 (L : Nat) (a0_0_0 : Int) (a0_0_1 : Int) (a0_0_2 : Bool) (a0_1_0 : Int) (a0_1_1 : Int) (a0_1_2 : Bool) (a0_2_0 : Int) (a0_2_1 : Int) (a0_2_2 : Bool) : Nat → Int → (List Int) → (List Int) → (List Int) → Option (Sum ((List Int) × (List Int) × (List Int)) ((List Int) × (List Int) × (List Int)))
  | 0, s2, s3, s4, s5 => some (.inl (s3, s4, s5))
  | tl + 1, s2, s3, s4, s5 => cb (decide (s2 = 0)) (cb a0_0_2 (some (.inr (s3, s4, s5))) (if a0_0_0 > a0_0_1 then (some (.inr (s3, s4, s5))) else (if a0_0_0 < (-1073741824) then (some (.inr (s3, s4, s5))) else (if a0_0_1 > 1073741824 then (some (.inr (s3, s4, s5))) else (if a0_0_0 ≤ 0 then (if a0_0_1 ≥ 0 then (p_spyref3_ends_l0 L a0_0_0 a0_0_1 a0_0_2 a0_1_0 a0_1_1 a0_1_2 a0_2_0 a0_2_1 a0_2_2 tl (s2 + 1) ([a0_0_0, a0_0_1, 0]) s4 s5) else (p_spyref3_ends_l0 L a0_0_0 a0_0_1 a0_0_2 a0_1_0 a0_1_1 a0_1_2 a0_2_0 a0_2_1 a0_2_2 tl (s2 + 1) ([a0_0_0, a0_0_1]) s4 s5)) else (p_spyref3_ends_l0 L a0_0_0 a0_0_1 a0_0_2 a0_1_0 a0_1_1 a0_1_2 a0_2_0 a0_2_1 a0_2_2 tl (s2 + 1) ([a0_0_0, a0_0_1]) s4 s5)))))) (cb (decide (s2 = 1)) (cb a0_1_2 (some (.inr (s3, s4, s5))) (if a0_1_0 > a0_1_1 then (some (.inr (s3, s4, s5))) else (if a0_1_0 < (-1073741824) then (some (.inr (s3, s4, s5))) else (if a0_1_1 > 1073741824 then (some (.inr (s3, s4, s5))) else (if a0_1_0 ≤ 0 then (if a0_1_1 ≥ 0 then (p_spyref3_ends_l0 L a0_0_0 a0_0_1 a0_0_2 a0_1_0 a0_1_1 a0_1_2 a0_2_0 a0_2_1 a0_2_2 tl (s2 + 1) s3 ([a0_1_0, a0_1_1, 0]) s5) else (p_spyref3_ends_l0 L a0_0_0 a0_0_1 a0_0_2 a0_1_0 a0_1_1 a0_1_2 a0_2_0 a0_2_1 a0_2_2 tl (s2 + 1) s3 ([a0_1_0, a0_1_1]) s5)) else (p_spyref3_ends_l0 L a0_0_0 a0_0_1 a0_0_2 a0_1_0 a0_1_1 a0_1_2 a0_2_0 a0_2_1 a0_2_2 tl (s2 + 1) s3 ([a0_1_0, a0_1_1]) s5)))))) (cb (decide (s2 = 2)) (cb a0_2_2 (some (.inr (s3, s4, s5))) (if a0_2_0 > a0_2_1 then (some (.inr (s3, s4, s5))) else (if a0_2_0 < (-1073741824) then (some (.inr (s3, s4, s5))) else (if a0_2_1 > 1073741824 then (some (.inr (s3, s4, s5))) else (if a0_2_0 ≤ 0 then (if a0_2_1 ≥ 0 then (p_spyref3_ends_l0 L a0_0_0 a0_0_1 a0_0_2 a0_1_0 a0_1_1 a0_1_2 a0_2_0 a0_2_1 a0_2_2 tl (s2 + 1) s3 s4 ([a0_2_0, a0_2_1, 0])) else (p_spyref3_ends_l0 L a0_0_0 a0_0_1 a0_0_2 a0_1_0 a0_1_1 a0_1_2 a0_2_0 a0_2_1 a0_2_2 tl (s2 + 1) s3 s4 ([a0_2_0, a0_2_1]))) else (p_spyref3_ends_l0 L a0_0_0 a0_0_1 a0_0_2 a0_1_0 a0_1_1 a0_1_2 a0_2_0 a0_2_1 a0_2_2 tl (s2 + 1) s3 s4 ([a0_2_0, a0_2_1]))))))) (none)))
def p_spyref3_ends (L : Nat) (a0_0_0 : Int) (a0_0_1 : Int) (a0_0_2 : Bool) (a0_1_0 : Int) (a0_1_1 : Int) (a0_1_2 : Bool) (a0_2_0 : Int) (a0_2_1 : Int) (a0_2_2 : Bool) : Option ((List Int) × (List Int) × (List Int) × Bool) := rq (3 < L) <| bnd (p_spyref3_ends_l0 L a0_0_0 a0_0_1 a0_0_2 a0_1_0 a0_1_1 a0_1_2 a0_2_0 a0_2_1 a0_2_2 3 0 ([] : List Int) ([] : List Int) ([] : List Int)) fun o6 => match o6 with | (.inl o6_0) => (some (o6_0.1, o6_0.2.1, o6_0.2.2, true)) | (.inr o6_1) => (some (o6_1.1, o6_1.2.1, o6_1.2.2, false))
attribute [local go_sem] Ev.putR_s Ev.putR_0 Ev.thenO_s Ev.thenO_0 Ev.seqR_n Ev.seqR_e Ev.seqR_r Ev.seqR_0 Ev.blkR_e Ev.blkR_n Ev.blkR_r Ev.blkR_0 Ev.normR_s Ev.normR_0 Ev.outR_r Ev.outR_n Ev.outR_0 Ev.retS_s Ev.retS_0 Ev.pureO_s Ev.pureO_0 Ev.topR_0 Ev.topR_t Ev.topR_t0 Ev.oneL_0 Ev.oneL_s Ev.topR_d Ev.topR_nils Ev.topR_agg Ev.topR_rs Ev.evOp_move Ev.evOp_assign Ev.evOp_pick Ev.evOp_alloc Ev.evOp_box Ev.evOp_build Ev.evOp_buildSlice Ev.evOp_load Ev.evOp_store Ev.evOp_makeMap Ev.evOp_lookup Ev.evOp_mapUpdate Ev.evOp_insert Ev.evOp_nilCheck Ev.evOp_binOp Ev.evOp_unOp Ev.evOp_convert Ev.evOp_makeFunc Ev.evOp_makeSlice Ev.evOp_slice Ev.evOp_fieldAddr Ev.evOp_field Ev.evOp_indexAddr Ev.evOp_index Ev.evOp_extract Ev.evOp_call Ev.evOp_append Ev.evOp_clear Ev.evOp_len Ev.evOp_min Ev.evOp_max Ev.condR_b Ev.condR_t Ev.evOps_nil Ev.evOps_plain Ev.evOps_guard Ev.runG_eq Ev.skipG_eq Ev.condL_tt Ev.condL_ff Ev.condL_tf Ev.condL_ft Ev.condL_u Ev.condC_t Ev.condC_f Ev.evC_skip Ev.evC_ret Ev.evC_exit Ev.evC_label Ev.evC_region Ev.evC_draw Ev.evC_seq Ev.evC_cond Ev.evC_block Ev.evC_loop Ev.fin_d Ev.fin_nils Ev.fin_agg_ Ev.fin_rs Ev.finS_s Ev.mapO_fin Ev.upd_upd Ev.argv_d Ev.argv_nils Ev.argv_agg Ev.argv_rs Ev.argv_p Ev.fk_low Ev.appendTo_nils Ev.appendTo_rs Ev.consV_d Ev.consV_agg Ev.consV_p Ev.consV_rs Ev.consV_nils Ev.consV_fn Ev.consV_und Ev.consV_jk Ev.consV_grown Ev.topR_grown Ev.len_grown Ev.consV_mp Ev.sameK_i Ev.sameK_s Ev.mget_0 Ev.mget_hit Ev.mget_miss Ev.mput_0 Ev.mput_hit Ev.mput_miss Ev.apartAll Ev.apartL Ev.apartV Ev.freeAll Ev.sel Ev.keyOfV Ev.evLookup Ev.evPut Ev.hintOk Ev.keyOk Ev.consP Ev.lookV Ev.guardV Ev.dstAt Ev.evPure Ev.evStore Ev.evBin Ev.evBinO Ev.evNil Ev.isNilC Ev.evUn Ev.evConv Ev.evSlice Ev.optI Ev.foldI Ev.capsOk Ev.noTup Ev.nth Ev.setN Ev.killAt Ev.pad Ev.V.get Ev.V.put Ev.putD Ev.newBlk Ev.upd Ev.keq Ev.empty Ev.evCall Ev.V.args Ev.argP Ev.callOf Ev.evNilP Ev.isNilP Ev.look Ev.V.view.views Ev.V.view Ev.V.toD Ev.V.toD.V.toDs Ev.V.pure.pures Ev.V.pure Ev.D.flat.flats Ev.D.flat Ev.mkAgg Ev.allD Ev.aggParts Ev.setParts Ev.setElems Ev.getPath Ev.setPath Ev.subL Ev.eqD Ev.eqD.eqDs Ev.and2 Ev.strCut Ev.evalT Ev.constT Ev.evArgs Ev.mask Ev.maskOf Ev.tableOf Ev.compT Ev.resV Ev.retV Ev.mapO Ev.frzO_n Ev.frzO_e Ev.frzO_r Ev.frzO_0 Ev.mb_z Ev.mb_0 Ev.mb_s Ev.frzL_t Ev.frzL_f Ev.frzL_0 Ev.frzT_nils Ev.frzT_rs Ev.frzT_p Ev.frzK_i Ev.keyIn_i Ev.rI_nil Ev.rI_cons Ev.rI_row Ev.rI_app Ev.r_d Ev.r_nils Ev.r_agg Ev.r_rs Ev.r_gl Ev.vw_row Ev.vw_app Ev.appO_s Ev.frzT_gl Ev.allD_gl Ev.killAt_i Ev.tkOne_i Ev.hT_agg Ev.hT_vagg Ev.hT_int Ev.hT_bool Ev.hT_str Ev.hT_sl Ev.hT_ptr Ev.hT_np Ev.hT_p Ev.hT_rs Ev.hT_mp Ev.hT_nils Ev.hT_fn Ev.hT_jk Ev.hT_gl Ev.eO_sl Ev.eO_nils Ev.eO_rs Ev.eT_sl Ev.eT_rs Ev.pL_str Ev.pL_sl Ev.pL_rs Ev.pL_nils Ev.pL_min Ev.pL_max Ev.len_glB Ev.noTup_gl Ev.rowV_len Ev.rowV_nil Ev.rowV_cons Ev.rowV_append Ev.rowV_set Ev.rowV_replicate Ev.nth_row Ev.row_take Ev.row_drop Ev.toDs_row Ev.fin_row Ev.map_row Ev.map_take_ Ev.map_drop_ Ev.Bk_i Ev.GlB_0 Ev.GlB_mk Ev.gl_nil Ev.gl_cons Ev.gl_snoc Ev.gl_setN Ev.appendTo_gl Ev.consV_gl Ev.elems_gl Ev.fin_gl Ev.view_gl Ev.argv_gl Ev.topR_gl Ev.sp_z Ev.sp_0 Ev.sp_s Ev.km_z Ev.km_0 Ev.km_s Ev.beq_toList Ev.nc0 Ev.bq_t Ev.bq_f Ev.bodyN Ev.le_maxRow Int.cast_ofNat_Int IntWalk.i64_in IntWalk.u64_in IntWalk.u8_in beq_self_eq_true Bool.true_beq Bool.false_beq Bool.and_true Bool.true_and Bool.false_and Bool.and_false Bool.and_self Bool.not_true Bool.not_false Bool.not_eq_true cond_true cond_false if_true if_false and_true true_and and_self decide_true decide_false Bool.or_true Bool.true_or Bool.or_false Bool.false_or List.isEmpty List.isEmpty_nil List.size_toArray List.map List.length_map List.length_cons List.length_nil Option.map Option.bind Option.getD Option.isSome List.replicate Bool.false_eq_true implies_true false_implies forall_const Array.toList Array.isEmpty List.append List.nil_append List.cons_append List.drop_zero List.take_length List.take_succ_cons List.take_zero List.take_nil List.getElem?_map List.getElem?_cons_zero List.getElem?_cons_succ List.getElem?_nil List.append_nil eq_self Int.toNat_natCast List.length_append Nat.zero_add Nat.add_zero List.length_replicate Nat.sub_zero Option.map_some Option.map_none Int.le_refl Nat.le_refl Int.natCast_nonneg List.map_append
noncomputable def G_spyref3_ends (L : Nat) : Specs := []
noncomputable def T_spyref3_ends : Table := tableOf [(112, en112)]
theorem Go_spyref3_ends (L : Nat) (hL : L ≤ 4611686018427387904) : ∀ g s, Ev.look (G_spyref3_ends L) g = some s → SpecOk Try.prog g s := specs_nil
theorem To_spyref3_ends (L : Nat) : TableOk Try.prog ((G_spyref3_ends L).map (·.1)) T_spyref3_ends := (table_cons Try.func112 (by kernel_rfl) (by kernel_rfl) table_nil)
attribute [local go_sem] Ty.tk2 Ty.ik2 Ty.ek2 Ty.zv2 Ty.by2 Ty.so2 Ty.tk3 Ty.ik3 Ty.ek3 Ty.zv3 Ty.by3 Ty.so3 Ty.tk4 Ty.ub4 Ty.ek4 Ty.zv4 Ty.by4 Ty.so4 Ty.tk62 Ty.ik62 Ty.ek62 Ty.zv62 Ty.by62 Ty.so62 Ty.tk64 Ty.ct64 Ty.ek64 Ty.zv64 Ty.by64 Ty.so64 Ty.tk66 Ty.ct66 Ty.ek66 Ty.zv66 Ty.by66 Ty.so66 Ty.tk168 Ty.ct168 Ty.zv168 Ty.by168 Ty.so168 Ty.tk179 Ty.zv179 Ty.by179 Ty.so179 Ty.tk180 Ty.ct180 Ty.zv180 Ty.by180 Ty.so180 Ty.k64_e Ty.k66_e Ty.k168_e Ty.k179_e Ty.k180_e E.mk112_0 E.mk112_1000001 E.mk112_1000002 E.mk112_1000000 E.kq112_0 E.gd112_0_1 E.gd112_0_2 E.gd112_0_4 E.gd112_0_6 E.gd112_0_43 E.gd112_0_57 E.gd112_0_58 E.fz112_0 E.fi112_0 E.lb112_0 loopN loops Try.f112
def Q0_p_spyref3_ends_l0 (a0_0_0 : Int) (a0_0_1 : Int) (a0_0_2 : Bool) (a0_1_0 : Int) (a0_1_1 : Int) (a0_1_2 : Bool) (a0_2_0 : Int) (a0_2_1 : Int) (a0_2_2 : Bool) (u : (List Int) × (List Int) × (List Int)) (z : Out) : Prop := ∃ env st, z = some (.exit 0, env, st) ∧ env = sp 62 0 [(2, .p (0, 2) (st (0, 2)).ver 0 []), (4, .p (0, 4) (st (0, 4)).ver 0 [])] ∧ Bk (st (0, 2)) 180 [.agg 180 [.nils 2, .nils 2, .nils 2]] ∧ Bk (st (0, 4)) 180 [.d (.agg 180 [.sl 2 (u.1.map (D.int .i64)), .sl 2 (u.2.1.map (D.int .i64)), .sl 2 (u.2.2.map (D.int .i64))])]
def Q1_p_spyref3_ends_l0 (a0_0_0 : Int) (a0_0_1 : Int) (a0_0_2 : Bool) (a0_1_0 : Int) (a0_1_1 : Int) (a0_1_2 : Bool) (a0_2_0 : Int) (a0_2_1 : Int) (a0_2_2 : Bool) (u : (List Int) × (List Int) × (List Int)) (z : Out) : Prop := ∃ env st, z = some (.ret, env, st) ∧ env = sp 62 0 [(2, .p (0, 2) (st (0, 2)).ver 0 []), (3, .d (.bool false))] ∧ Bk (st (0, 2)) 180 [.d (.agg 180 [.sl 2 (u.1.map (D.int .i64)), .sl 2 (u.2.1.map (D.int .i64)), .sl 2 (u.2.2.map (D.int .i64))])]
def Q_p_spyref3_ends_l0 (a0_0_0 : Int) (a0_0_1 : Int) (a0_0_2 : Bool) (a0_1_0 : Int) (a0_1_1 : Int) (a0_1_2 : Bool) (a0_2_0 : Int) (a0_2_1 : Int) (a0_2_2 : Bool) (o : Sum ((List Int) × (List Int) × (List Int)) ((List Int) × (List Int) × (List Int))) (z : Out) : Prop := match o with | (.inl u) => Q0_p_spyref3_ends_l0 a0_0_0 a0_0_1 a0_0_2 a0_1_0 a0_1_1 a0_1_2 a0_2_0 a0_2_1 a0_2_2 u z | (.inr u) => Q1_p_spyref3_ends_l0 a0_0_0 a0_0_1 a0_0_2 a0_1_0 a0_1_1 a0_1_2 a0_2_0 a0_2_1 a0_2_2 u z
theorem l_p_spyref3_ends_l0 (L : Nat) (hL : L ≤ 4611686018427387904) (a0_0_0 : Int) (a0_0_1 : Int) (a0_0_2 : Bool) (a0_1_0 : Int) (a0_1_1 : Int) (a0_1_2 : Bool) (a0_2_0 : Int) (a0_2_1 : Int) (a0_2_2 : Bool) : ∀ (tl n : Nat) (s2 : Int) (s3 : List Int) (s4 : List Int) (s5 : List Int) (env : List V) (st : Store) (o : Sum ((List Int) × (List Int) × (List Int)) ((List Int) × (List Int) × (List Int))), tl < n → Cnt 3 s2 tl → mask (maskOf en112.ms 0) env = sp 62 0 [(2, .p (0, 2) (st (0, 2)).ver 0 []), (4, .p (0, 4) (st (0, 4)).ver 0 []), (13, .d (.agg 168 [.agg 64 [.int .i64 a0_0_0, .int .i64 a0_0_1, .bool a0_0_2], .agg 64 [.int .i64 a0_1_0, .int .i64 a0_1_1, .bool a0_1_2], .agg 64 [.int .i64 a0_2_0, .int .i64 a0_2_1, .bool a0_2_2]])), (14, .d (.int .i64 s2))] → Bk (st (0, 2)) 180 [.agg 180 [.nils 2, .nils 2, .nils 2]] → Bk (st (0, 4)) 180 [.d (.agg 180 [.sl 2 (s3.map (D.int .i64)), .sl 2 (s4.map (D.int .i64)), .sl 2 (s5.map (D.int .i64))])] → p_spyref3_ends_l0 L a0_0_0 a0_0_1 a0_0_2 a0_1_0 a0_1_1 a0_1_2 a0_2_0 a0_2_1 a0_2_2 tl s2 s3 s4 s5 = some o →
    Q_p_spyref3_ends_l0 a0_0_0 a0_0_1 a0_0_2 a0_1_0 a0_1_1 a0_1_2 a0_2_0 a0_2_1 a0_2_2 o (iter (fun env st => frzO 0 (mb 62 0 [4]) fk112_0 (evC Try.prog (G_spyref3_ends L) (evF Try.prog (G_spyref3_ends L) T_spyref3_ends L 0) L en112.ms 0 0 lb112_0 env st)) (maskOf en112.ms 0) n env st) := by
  intro tl
  induction tl with
  | zero =>
    intro n s2 s3 s4 s5 env st o hn hR he hb0 hb1 h
    obtain ⟨n, rfl⟩ : ∃ m, n = m + 1 := ⟨n - 1, by omega⟩
    obtain ⟨be0, bv0, bl0⟩ := hb0
    obtain ⟨be1, bv1, bl1⟩ := hb1
    generalize hQ : Q_p_spyref3_ends_l0 a0_0_0 a0_0_1 a0_0_2 a0_1_0 a0_1_1 a0_1_2 a0_2_0 a0_2_1 a0_2_2 = Q
    have g0 := cnt_nil hR
    rw [iter, he]
    clear he
    generalize hK : iter _ _ n = K
    rw [p_spyref3_ends_l0] at h
    revert h
    rintro ⟨⟩
    simp only [go_sem, Nat.reduceAdd, Nat.reduceSub, Nat.reduceMul, Nat.reduceEqDiff, Nat.reduceBEq, Nat.reduceLT, Nat.reduceLeDiff, Nat.reducePow, Int.reduceToNat, Int.reduceLT, Int.reduceLE, Int.reduceGT, Int.reduceGE, Int.reduceEq, Int.reduceNeg, Int.reduceAdd, Int.reduceSub, Int.reduceMul, ↓reduceIte, reduceCtorEq, *]
    subst hQ
    refine (⟨_, _, rfl, ?_, ?_, ?_⟩ : Q0_p_spyref3_ends_l0 _ _ _ _ _ _ _ _ _ _ _)
    all_goals simp only [go_sem, Nat.reduceAdd, Nat.reduceSub, Nat.reduceMul, Nat.reduceEqDiff, Nat.reduceBEq, Nat.reduceLT, Nat.reduceLeDiff, Nat.reducePow, Int.reduceToNat, Int.reduceLT, Int.reduceLE, Int.reduceGT, Int.reduceGE, Int.reduceEq, Int.reduceNeg, Int.reduceAdd, Int.reduceSub, Int.reduceMul, ↓reduceIte, reduceCtorEq, *]
  | succ tl ih =>
    intro n s2 s3 s4 s5 env st o hn hR he hb0 hb1 h
    obtain ⟨n, rfl⟩ : ∃ m, n = m + 1 := ⟨n - 1, by omega⟩
    obtain ⟨be0, bv0, bl0⟩ := hb0
    obtain ⟨be1, bv1, bl1⟩ := hb1
    generalize hQ : Q_p_spyref3_ends_l0 a0_0_0 a0_0_1 a0_0_2 a0_1_0 a0_1_1 a0_1_2 a0_2_0 a0_2_1 a0_2_2 = Q at ih ⊢
    replace ih : Hold _ := ih
    replace hR := cnt_s hR
    obtain ⟨g0, g1, g3, hR⟩ := hR
    rw [iter, he]
    clear he
    generalize hK : iter _ _ n = K
    rw [p_spyref3_ends_l0] at h
    revert h
    refine cb_i (fun c1 => ?_) (fun c1 => ?_)
    · have c2 : 0 ≤ s2 := by have := of_decide_eq_true c1; omega
      have c3 : s2 < 3 := by have := of_decide_eq_true c1; omega
      have c4 : s2.toNat = 0 := by have := of_decide_eq_true c1; omega
      refine cb_i (fun c5 => ?_) (fun c5 => ?_)
      · rintro ⟨⟩
        simp only [go_sem, Nat.reduceAdd, Nat.reduceSub, Nat.reduceMul, Nat.reduceEqDiff, Nat.reduceBEq, Nat.reduceLT, Nat.reduceLeDiff, Nat.reducePow, Int.reduceToNat, Int.reduceLT, Int.reduceLE, Int.reduceGT, Int.reduceGE, Int.reduceEq, Int.reduceNeg, Int.reduceAdd, Int.reduceSub, Int.reduceMul, ↓reduceIte, reduceCtorEq, *]
        subst hQ
        refine (⟨_, _, rfl, ?_, ?_⟩ : Q1_p_spyref3_ends_l0 _ _ _ _ _ _ _ _ _ _ _)
        all_goals simp only [go_sem, Nat.reduceAdd, Nat.reduceSub, Nat.reduceMul, Nat.reduceEqDiff, Nat.reduceBEq, Nat.reduceLT, Nat.reduceLeDiff, Nat.reducePow, Int.reduceToNat, Int.reduceLT, Int.reduceLE, Int.reduceGT, Int.reduceGE, Int.reduceEq, Int.reduceNeg, Int.reduceAdd, Int.reduceSub, Int.reduceMul, ↓reduceIte, reduceCtorEq, *]
      · refine ite_i (fun c6 => ?_) (fun c6 => ?_)
        · rintro ⟨⟩
          simp only [go_sem, Nat.reduceAdd, Nat.reduceSub, Nat.reduceMul, Nat.reduceEqDiff, Nat.reduceBEq, Nat.reduceLT, Nat.reduceLeDiff, Nat.reducePow, Int.reduceToNat, Int.reduceLT, Int.reduceLE, Int.reduceGT, Int.reduceGE, Int.reduceEq, Int.reduceNeg, Int.reduceAdd, Int.reduceSub, Int.reduceMul, ↓reduceIte, reduceCtorEq, *]
          subst hQ
          refine (⟨_, _, rfl, ?_, ?_⟩ : Q1_p_spyref3_ends_l0 _ _ _ _ _ _ _ _ _ _ _)
          all_goals simp only [go_sem, Nat.reduceAdd, Nat.reduceSub, Nat.reduceMul, Nat.reduceEqDiff, Nat.reduceBEq, Nat.reduceLT, Nat.reduceLeDiff, Nat.reducePow, Int.reduceToNat, Int.reduceLT, Int.reduceLE, Int.reduceGT, Int.reduceGE, Int.reduceEq, Int.reduceNeg, Int.reduceAdd, Int.reduceSub, Int.reduceMul, ↓reduceIte, reduceCtorEq, *]
        · refine ite_i (fun c7 => ?_) (fun c7 => ?_)
          · rintro ⟨⟩
            simp only [go_sem, Nat.reduceAdd, Nat.reduceSub, Nat.reduceMul, Nat.reduceEqDiff, Nat.reduceBEq, Nat.reduceLT, Nat.reduceLeDiff, Nat.reducePow, Int.reduceToNat, Int.reduceLT, Int.reduceLE, Int.reduceGT, Int.reduceGE, Int.reduceEq, Int.reduceNeg, Int.reduceAdd, Int.reduceSub, Int.reduceMul, ↓reduceIte, reduceCtorEq, *]
            subst hQ
            refine (⟨_, _, rfl, ?_, ?_⟩ : Q1_p_spyref3_ends_l0 _ _ _ _ _ _ _ _ _ _ _)
            all_goals simp only [go_sem, Nat.reduceAdd, Nat.reduceSub, Nat.reduceMul, Nat.reduceEqDiff, Nat.reduceBEq, Nat.reduceLT, Nat.reduceLeDiff, Nat.reducePow, Int.reduceToNat, Int.reduceLT, Int.reduceLE, Int.reduceGT, Int.reduceGE, Int.reduceEq, Int.reduceNeg, Int.reduceAdd, Int.reduceSub, Int.reduceMul, ↓reduceIte, reduceCtorEq, *]
          · refine ite_i (fun c8 => ?_) (fun c8 => ?_)
            · rintro ⟨⟩
              simp only [go_sem, Nat.reduceAdd, Nat.reduceSub, Nat.reduceMul, Nat.reduceEqDiff, Nat.reduceBEq, Nat.reduceLT, Nat.reduceLeDiff, Nat.reducePow, Int.reduceToNat, Int.reduceLT, Int.reduceLE, Int.reduceGT, Int.reduceGE, Int.reduceEq, Int.reduceNeg, Int.reduceAdd, Int.reduceSub, Int.reduceMul, ↓reduceIte, reduceCtorEq, *]
              subst hQ
              refine (⟨_, _, rfl, ?_, ?_⟩ : Q1_p_spyref3_ends_l0 _ _ _ _ _ _ _ _ _ _ _)
              all_goals simp only [go_sem, Nat.reduceAdd, Nat.reduceSub, Nat.reduceMul, Nat.reduceEqDiff, Nat.reduceBEq, Nat.reduceLT, Nat.reduceLeDiff, Nat.reducePow, Int.reduceToNat, Int.reduceLT, Int.reduceLE, Int.reduceGT, Int.reduceGE, Int.reduceEq, Int.reduceNeg, Int.reduceAdd, Int.reduceSub, Int.reduceMul, ↓reduceIte, reduceCtorEq, *]
            · refine ite_i (fun c9 => ?_) (fun c9 => ?_)
              · refine ite_i (fun c10 => ?_) (fun c10 => ?_)
                · intro h
                  simp only [go_sem, Nat.reduceAdd, Nat.reduceSub, Nat.reduceMul, Nat.reduceEqDiff, Nat.reduceBEq, Nat.reduceLT, Nat.reduceLeDiff, Nat.reducePow, Int.reduceToNat, Int.reduceLT, Int.reduceLE, Int.reduceGT, Int.reduceGE, Int.reduceEq, Int.reduceNeg, Int.reduceAdd, Int.reduceSub, Int.reduceMul, ↓reduceIte, reduceCtorEq, *]
                  subst hK
                  refine ih n (s2 + 1) ([a0_0_0, a0_0_1, 0]) s4 s5 _ _ _ (by omega) hR ?_ ?_ ?_ h
                  all_goals simp only [go_sem, Nat.reduceAdd, Nat.reduceSub, Nat.reduceMul, Nat.reduceEqDiff, Nat.reduceBEq, Nat.reduceLT, Nat.reduceLeDiff, Nat.reducePow, Int.reduceToNat, Int.reduceLT, Int.reduceLE, Int.reduceGT, Int.reduceGE, Int.reduceEq, Int.reduceNeg, Int.reduceAdd, Int.reduceSub, Int.reduceMul, ↓reduceIte, reduceCtorEq, *]
                · intro h
                  simp only [go_sem, Nat.reduceAdd, Nat.reduceSub, Nat.reduceMul, Nat.reduceEqDiff, Nat.reduceBEq, Nat.reduceLT, Nat.reduceLeDiff, Nat.reducePow, Int.reduceToNat, Int.reduceLT, Int.reduceLE, Int.reduceGT, Int.reduceGE, Int.reduceEq, Int.reduceNeg, Int.reduceAdd, Int.reduceSub, Int.reduceMul, ↓reduceIte, reduceCtorEq, *]
                  subst hK
                  refine ih n (s2 + 1) ([a0_0_0, a0_0_1]) s4 s5 _ _ _ (by omega) hR ?_ ?_ ?_ h
                  all_goals simp only [go_sem, Nat.reduceAdd, Nat.reduceSub, Nat.reduceMul, Nat.reduceEqDiff, Nat.reduceBEq, Nat.reduceLT, Nat.reduceLeDiff, Nat.reducePow, Int.reduceToNat, Int.reduceLT, Int.reduceLE, Int.reduceGT, Int.reduceGE, Int.reduceEq, Int.reduceNeg, Int.reduceAdd, Int.reduceSub, Int.reduceMul, ↓reduceIte, reduceCtorEq, *]
              · intro h
                simp only [go_sem, Nat.reduceAdd, Nat.reduceSub, Nat.reduceMul, Nat.reduceEqDiff, Nat.reduceBEq, Nat.reduceLT, Nat.reduceLeDiff, Nat.reducePow, Int.reduceToNat, Int.reduceLT, Int.reduceLE, Int.reduceGT, Int.reduceGE, Int.reduceEq, Int.reduceNeg, Int.reduceAdd, Int.reduceSub, Int.reduceMul, ↓reduceIte, reduceCtorEq, *]
                subst hK
                refine ih n (s2 + 1) ([a0_0_0, a0_0_1]) s4 s5 _ _ _ (by omega) hR ?_ ?_ ?_ h
                all_goals simp only [go_sem, Nat.reduceAdd, Nat.reduceSub, Nat.reduceMul, Nat.reduceEqDiff, Nat.reduceBEq, Nat.reduceLT, Nat.reduceLeDiff, Nat.reducePow, Int.reduceToNat, Int.reduceLT, Int.reduceLE, Int.reduceGT, Int.reduceGE, Int.reduceEq, Int.reduceNeg, Int.reduceAdd, Int.reduceSub, Int.reduceMul, ↓reduceIte, reduceCtorEq, *]
    · refine cb_i (fun c11 => ?_) (fun c11 => ?_)
      · have c12 : 0 ≤ s2 := by have := of_decide_eq_true c11; omega
        have c13 : s2 < 3 := by have := of_decide_eq_true c11; omega
        have c14 : s2.toNat = 1 := by have := of_decide_eq_true c11; omega
        refine cb_i (fun c15 => ?_) (fun c15 => ?_)
        · rintro ⟨⟩
          simp only [go_sem, Nat.reduceAdd, Nat.reduceSub, Nat.reduceMul, Nat.reduceEqDiff, Nat.reduceBEq, Nat.reduceLT, Nat.reduceLeDiff, Nat.reducePow, Int.reduceToNat, Int.reduceLT, Int.reduceLE, Int.reduceGT, Int.reduceGE, Int.reduceEq, Int.reduceNeg, Int.reduceAdd, Int.reduceSub, Int.reduceMul, ↓reduceIte, reduceCtorEq, *]
          subst hQ
          refine (⟨_, _, rfl, ?_, ?_⟩ : Q1_p_spyref3_ends_l0 _ _ _ _ _ _ _ _ _ _ _)
          all_goals simp only [go_sem, Nat.reduceAdd, Nat.reduceSub, Nat.reduceMul, Nat.reduceEqDiff, Nat.reduceBEq, Nat.reduceLT, Nat.reduceLeDiff, Nat.reducePow, Int.reduceToNat, Int.reduceLT, Int.reduceLE, Int.reduceGT, Int.reduceGE, Int.reduceEq, Int.reduceNeg, Int.reduceAdd, Int.reduceSub, Int.reduceMul, ↓reduceIte, reduceCtorEq, *]
        · refine ite_i (fun c16 => ?_) (fun c16 => ?_)
          · rintro ⟨⟩
            simp only [go_sem, Nat.reduceAdd, Nat.reduceSub, Nat.reduceMul, Nat.reduceEqDiff, Nat.reduceBEq, Nat.reduceLT, Nat.reduceLeDiff, Nat.reducePow, Int.reduceToNat, Int.reduceLT, Int.reduceLE, Int.reduceGT, Int.reduceGE, Int.reduceEq, Int.reduceNeg, Int.reduceAdd, Int.reduceSub, Int.reduceMul, ↓reduceIte, reduceCtorEq, *]
            subst hQ
            refine (⟨_, _, rfl, ?_, ?_⟩ : Q1_p_spyref3_ends_l0 _ _ _ _ _ _ _ _ _ _ _)
            all_goals simp only [go_sem, Nat.reduceAdd, Nat.reduceSub, Nat.reduceMul, Nat.reduceEqDiff, Nat.reduceBEq, Nat.reduceLT, Nat.reduceLeDiff, Nat.reducePow, Int.reduceToNat, Int.reduceLT, Int.reduceLE, Int.reduceGT, Int.reduceGE, Int.reduceEq, Int.reduceNeg, Int.reduceAdd, Int.reduceSub, Int.reduceMul, ↓reduceIte, reduceCtorEq, *]
          · refine ite_i (fun c17 => ?_) (fun c17 => ?_)
            · rintro ⟨⟩
              simp only [go_sem, Nat.reduceAdd, Nat.reduceSub, Nat.reduceMul, Nat.reduceEqDiff, Nat.reduceBEq, Nat.reduceLT, Nat.reduceLeDiff, Nat.reducePow, Int.reduceToNat, Int.reduceLT, Int.reduceLE, Int.reduceGT, Int.reduceGE, Int.reduceEq, Int.reduceNeg, Int.reduceAdd, Int.reduceSub, Int.reduceMul, ↓reduceIte, reduceCtorEq, *]
              subst hQ
              refine (⟨_, _, rfl, ?_, ?_⟩ : Q1_p_spyref3_ends_l0 _ _ _ _ _ _ _ _ _ _ _)
              all_goals simp only [go_sem, Nat.reduceAdd, Nat.reduceSub, Nat.reduceMul, Nat.reduceEqDiff, Nat.reduceBEq, Nat.reduceLT, Nat.reduceLeDiff, Nat.reducePow, Int.reduceToNat, Int.reduceLT, Int.reduceLE, Int.reduceGT, Int.reduceGE, Int.reduceEq, Int.reduceNeg, Int.reduceAdd, Int.reduceSub, Int.reduceMul, ↓reduceIte, reduceCtorEq, *]
            · refine ite_i (fun c18 => ?_) (fun c18 => ?_)
              · rintro ⟨⟩
                simp only [go_sem, Nat.reduceAdd, Nat.reduceSub, Nat.reduceMul, Nat.reduceEqDiff, Nat.reduceBEq, Nat.reduceLT, Nat.reduceLeDiff, Nat.reducePow, Int.reduceToNat, Int.reduceLT, Int.reduceLE, Int.reduceGT, Int.reduceGE, Int.reduceEq, Int.reduceNeg, Int.reduceAdd, Int.reduceSub, Int.reduceMul, ↓reduceIte, reduceCtorEq, *]
                subst hQ
                refine (⟨_, _, rfl, ?_, ?_⟩ : Q1_p_spyref3_ends_l0 _ _ _ _ _ _ _ _ _ _ _)
                all_goals simp only [go_sem, Nat.reduceAdd, Nat.reduceSub, Nat.reduceMul, Nat.reduceEqDiff, Nat.reduceBEq, Nat.reduceLT, Nat.reduceLeDiff, Nat.reducePow, Int.reduceToNat, Int.reduceLT, Int.reduceLE, Int.reduceGT, Int.reduceGE, Int.reduceEq, Int.reduceNeg, Int.reduceAdd, Int.reduceSub, Int.reduceMul, ↓reduceIte, reduceCtorEq, *]
              · refine ite_i (fun c19 => ?_) (fun c19 => ?_)
                · refine ite_i (fun c20 => ?_) (fun c20 => ?_)
                  · intro h
                    simp only [go_sem, Nat.reduceAdd, Nat.reduceSub, Nat.reduceMul, Nat.reduceEqDiff, Nat.reduceBEq, Nat.reduceLT, Nat.reduceLeDiff, Nat.reducePow, Int.reduceToNat, Int.reduceLT, Int.reduceLE, Int.reduceGT, Int.reduceGE, Int.reduceEq, Int.reduceNeg, Int.reduceAdd, Int.reduceSub, Int.reduceMul, ↓reduceIte, reduceCtorEq, *]
                    subst hK
                    refine ih n (s2 + 1) s3 ([a0_1_0, a0_1_1, 0]) s5 _ _ _ (by omega) hR ?_ ?_ ?_ h
                    all_goals simp only [go_sem, Nat.reduceAdd, Nat.reduceSub, Nat.reduceMul, Nat.reduceEqDiff, Nat.reduceBEq, Nat.reduceLT, Nat.reduceLeDiff, Nat.reducePow, Int.reduceToNat, Int.reduceLT, Int.reduceLE, Int.reduceGT, Int.reduceGE, Int.reduceEq, Int.reduceNeg, Int.reduceAdd, Int.reduceSub, Int.reduceMul, ↓reduceIte, reduceCtorEq, *]
                  · intro h
                    simp only [go_sem, Nat.reduceAdd, Nat.reduceSub, Nat.reduceMul, Nat.reduceEqDiff, Nat.reduceBEq, Nat.reduceLT, Nat.reduceLeDiff, Nat.reducePow, Int.reduceToNat, Int.reduceLT, Int.reduceLE, Int.reduceGT, Int.reduceGE, Int.reduceEq, Int.reduceNeg, Int.reduceAdd, Int.reduceSub, Int.reduceMul, ↓reduceIte, reduceCtorEq, *]
                    subst hK
                    refine ih n (s2 + 1) s3 ([a0_1_0, a0_1_1]) s5 _ _ _ (by omega) hR ?_ ?_ ?_ h
                    all_goals simp only [go_sem, Nat.reduceAdd, Nat.reduceSub, Nat.reduceMul, Nat.reduceEqDiff, Nat.reduceBEq, Nat.reduceLT, Nat.reduceLeDiff, Nat.reducePow, Int.reduceToNat, Int.reduceLT, Int.reduceLE, Int.reduceGT, Int.reduceGE, Int.reduceEq, Int.reduceNeg, Int.reduceAdd, Int.reduceSub, Int.reduceMul, ↓reduceIte, reduceCtorEq, *]
                · intro h
                  simp only [go_sem, Nat.reduceAdd, Nat.reduceSub, Nat.reduceMul, Nat.reduceEqDiff, Nat.reduceBEq, Nat.reduceLT, Nat.reduceLeDiff, Nat.reducePow, Int.reduceToNat, Int.reduceLT, Int.reduceLE, Int.reduceGT, Int.reduceGE, Int.reduceEq, Int.reduceNeg, Int.reduceAdd, Int.reduceSub, Int.reduceMul, ↓reduceIte, reduceCtorEq, *]
                  subst hK
                  refine ih n (s2 + 1) s3 ([a0_1_0, a0_1_1]) s5 _ _ _ (by omega) hR ?_ ?_ ?_ h
                  all_goals simp only [go_sem, Nat.reduceAdd, Nat.reduceSub, Nat.reduceMul, Nat.reduceEqDiff, Nat.reduceBEq, Nat.reduceLT, Nat.reduceLeDiff, Nat.reducePow, Int.reduceToNat, Int.reduceLT, Int.reduceLE, Int.reduceGT, Int.reduceGE, Int.reduceEq, Int.reduceNeg, Int.reduceAdd, Int.reduceSub, Int.reduceMul, ↓reduceIte, reduceCtorEq, *]
      · refine cb_i (fun c21 => ?_) (fun c21 => ?_)
        · have c22 : 0 ≤ s2 := by have := of_decide_eq_true c21; omega
          have c23 : s2 < 3 := by have := of_decide_eq_true c21; omega
          have c24 : s2.toNat = 2 := by have := of_decide_eq_true c21; omega
          refine cb_i (fun c25 => ?_) (fun c25 => ?_)
          · rintro ⟨⟩
            simp only [go_sem, Nat.reduceAdd, Nat.reduceSub, Nat.reduceMul, Nat.reduceEqDiff, Nat.reduceBEq, Nat.reduceLT, Nat.reduceLeDiff, Nat.reducePow, Int.reduceToNat, Int.reduceLT, Int.reduceLE, Int.reduceGT, Int.reduceGE, Int.reduceEq, Int.reduceNeg, Int.reduceAdd, Int.reduceSub, Int.reduceMul, ↓reduceIte, reduceCtorEq, *]
            subst hQ
            refine (⟨_, _, rfl, ?_, ?_⟩ : Q1_p_spyref3_ends_l0 _ _ _ _ _ _ _ _ _ _ _)
            all_goals simp only [go_sem, Nat.reduceAdd, Nat.reduceSub, Nat.reduceMul, Nat.reduceEqDiff, Nat.reduceBEq, Nat.reduceLT, Nat.reduceLeDiff, Nat.reducePow, Int.reduceToNat, Int.reduceLT, Int.reduceLE, Int.reduceGT, Int.reduceGE, Int.reduceEq, Int.reduceNeg, Int.reduceAdd, Int.reduceSub, Int.reduceMul, ↓reduceIte, reduceCtorEq, *]
          · refine ite_i (fun c26 => ?_) (fun c26 => ?_)
            · rintro ⟨⟩
              simp only [go_sem, Nat.reduceAdd, Nat.reduceSub, Nat.reduceMul, Nat.reduceEqDiff, Nat.reduceBEq, Nat.reduceLT, Nat.reduceLeDiff, Nat.reducePow, Int.reduceToNat, Int.reduceLT, Int.reduceLE, Int.reduceGT, Int.reduceGE, Int.reduceEq, Int.reduceNeg, Int.reduceAdd, Int.reduceSub, Int.reduceMul, ↓reduceIte, reduceCtorEq, *]
              subst hQ
              refine (⟨_, _, rfl, ?_, ?_⟩ : Q1_p_spyref3_ends_l0 _ _ _ _ _ _ _ _ _ _ _)
              all_goals simp only [go_sem, Nat.reduceAdd, Nat.reduceSub, Nat.reduceMul, Nat.reduceEqDiff, Nat.reduceBEq, Nat.reduceLT, Nat.reduceLeDiff, Nat.reducePow, Int.reduceToNat, Int.reduceLT, Int.reduceLE, Int.reduceGT, Int.reduceGE, Int.reduceEq, Int.reduceNeg, Int.reduceAdd, Int.reduceSub, Int.reduceMul, ↓reduceIte, reduceCtorEq, *]
            · refine ite_i (fun c27 => ?_) (fun c27 => ?_)
              · rintro ⟨⟩
                simp only [go_sem, Nat.reduceAdd, Nat.reduceSub, Nat.reduceMul, Nat.reduceEqDiff, Nat.reduceBEq, Nat.reduceLT, Nat.reduceLeDiff, Nat.reducePow, Int.reduceToNat, Int.reduceLT, Int.reduceLE, Int.reduceGT, Int.reduceGE, Int.reduceEq, Int.reduceNeg, Int.reduceAdd, Int.reduceSub, Int.reduceMul, ↓reduceIte, reduceCtorEq, *]
                subst hQ
                refine (⟨_, _, rfl, ?_, ?_⟩ : Q1_p_spyref3_ends_l0 _ _ _ _ _ _ _ _ _ _ _)
                all_goals simp only [go_sem, Nat.reduceAdd, Nat.reduceSub, Nat.reduceMul, Nat.reduceEqDiff, Nat.reduceBEq, Nat.reduceLT, Nat.reduceLeDiff, Nat.reducePow, Int.reduceToNat, Int.reduceLT, Int.reduceLE, Int.reduceGT, Int.reduceGE, Int.reduceEq, Int.reduceNeg, Int.reduceAdd, Int.reduceSub, Int.reduceMul, ↓reduceIte, reduceCtorEq, *]
              · refine ite_i (fun c28 => ?_) (fun c28 => ?_)
                · rintro ⟨⟩
                  simp only [go_sem, Nat.reduceAdd, Nat.reduceSub, Nat.reduceMul, Nat.reduceEqDiff, Nat.reduceBEq, Nat.reduceLT, Nat.reduceLeDiff, Nat.reducePow, Int.reduceToNat, Int.reduceLT, Int.reduceLE, Int.reduceGT, Int.reduceGE, Int.reduceEq, Int.reduceNeg, Int.reduceAdd, Int.reduceSub, Int.reduceMul, ↓reduceIte, reduceCtorEq, *]
                  subst hQ
                  refine (⟨_, _, rfl, ?_, ?_⟩ : Q1_p_spyref3_ends_l0 _ _ _ _ _ _ _ _ _ _ _)
                  all_goals simp only [go_sem, Nat.reduceAdd, Nat.reduceSub, Nat.reduceMul, Nat.reduceEqDiff, Nat.reduceBEq, Nat.reduceLT, Nat.reduceLeDiff, Nat.reducePow, Int.reduceToNat, Int.reduceLT, Int.reduceLE, Int.reduceGT, Int.reduceGE, Int.reduceEq, Int.reduceNeg, Int.reduceAdd, Int.reduceSub, Int.reduceMul, ↓reduceIte, reduceCtorEq, *]
                · refine ite_i (fun c29 => ?_) (fun c29 => ?_)
                  · refine ite_i (fun c30 => ?_) (fun c30 => ?_)
                    · intro h
                      simp only [go_sem, Nat.reduceAdd, Nat.reduceSub, Nat.reduceMul, Nat.reduceEqDiff, Nat.reduceBEq, Nat.reduceLT, Nat.reduceLeDiff, Nat.reducePow, Int.reduceToNat, Int.reduceLT, Int.reduceLE, Int.reduceGT, Int.reduceGE, Int.reduceEq, Int.reduceNeg, Int.reduceAdd, Int.reduceSub, Int.reduceMul, ↓reduceIte, reduceCtorEq, *]
                      subst hK
                      refine ih n (s2 + 1) s3 s4 ([a0_2_0, a0_2_1, 0]) _ _ _ (by omega) hR ?_ ?_ ?_ h
                      all_goals simp only [go_sem, Nat.reduceAdd, Nat.reduceSub, Nat.reduceMul, Nat.reduceEqDiff, Nat.reduceBEq, Nat.reduceLT, Nat.reduceLeDiff, Nat.reducePow, Int.reduceToNat, Int.reduceLT, Int.reduceLE, Int.reduceGT, Int.reduceGE, Int.reduceEq, Int.reduceNeg, Int.reduceAdd, Int.reduceSub, Int.reduceMul, ↓reduceIte, reduceCtorEq, *]
                    · intro h
                      simp only [go_sem, Nat.reduceAdd, Nat.reduceSub, Nat.reduceMul, Nat.reduceEqDiff, Nat.reduceBEq, Nat.reduceLT, Nat.reduceLeDiff, Nat.reducePow, Int.reduceToNat, Int.reduceLT, Int.reduceLE, Int.reduceGT, Int.reduceGE, Int.reduceEq, Int.reduceNeg, Int.reduceAdd, Int.reduceSub, Int.reduceMul, ↓reduceIte, reduceCtorEq, *]
                      subst hK
                      refine ih n (s2 + 1) s3 s4 ([a0_2_0, a0_2_1]) _ _ _ (by omega) hR ?_ ?_ ?_ h
                      all_goals simp only [go_sem, Nat.reduceAdd, Nat.reduceSub, Nat.reduceMul, Nat.reduceEqDiff, Nat.reduceBEq, Nat.reduceLT, Nat.reduceLeDiff, Nat.reducePow, Int.reduceToNat, Int.reduceLT, Int.reduceLE, Int.reduceGT, Int.reduceGE, Int.reduceEq, Int.reduceNeg, Int.reduceAdd, Int.reduceSub, Int.reduceMul, ↓reduceIte, reduceCtorEq, *]
                  · intro h
                    simp only [go_sem, Nat.reduceAdd, Nat.reduceSub, Nat.reduceMul, Nat.reduceEqDiff, Nat.reduceBEq, Nat.reduceLT, Nat.reduceLeDiff, Nat.reducePow, Int.reduceToNat, Int.reduceLT, Int.reduceLE, Int.reduceGT, Int.reduceGE, Int.reduceEq, Int.reduceNeg, Int.reduceAdd, Int.reduceSub, Int.reduceMul, ↓reduceIte, reduceCtorEq, *]
                    subst hK
                    refine ih n (s2 + 1) s3 s4 ([a0_2_0, a0_2_1]) _ _ _ (by omega) hR ?_ ?_ ?_ h
                    all_goals simp only [go_sem, Nat.reduceAdd, Nat.reduceSub, Nat.reduceMul, Nat.reduceEqDiff, Nat.reduceBEq, Nat.reduceLT, Nat.reduceLeDiff, Nat.reducePow, Int.reduceToNat, Int.reduceLT, Int.reduceLE, Int.reduceGT, Int.reduceGE, Int.reduceEq, Int.reduceNeg, Int.reduceAdd, Int.reduceSub, Int.reduceMul, ↓reduceIte, reduceCtorEq, *]
        · intro h; cases h
theorem e_spyref3_ends (L : Nat) (hL : L ≤ 4611686018427387904) (a0_0_0 : Int) (a0_0_1 : Int) (a0_0_2 : Bool) (a0_1_0 : Int) (a0_1_1 : Int) (a0_1_2 : Bool) (a0_2_0 : Int) (a0_2_1 : Int) (a0_2_2 : Bool) (res : (List Int) × (List Int) × (List Int) × Bool) (h : p_spyref3_ends L a0_0_0 a0_0_1 a0_0_2 a0_1_0 a0_1_1 a0_1_2 a0_2_0 a0_2_1 a0_2_2 = some res) : evTop Try.prog (G_spyref3_ends L) T_spyref3_ends L 1 112 [.agg 66 [.agg 64 [.int .i64 a0_0_0, .int .i64 a0_0_1, .bool a0_0_2], .agg 64 [.int .i64 a0_1_0, .int .i64 a0_1_1, .bool a0_1_2], .agg 64 [.int .i64 a0_2_0, .int .i64 a0_2_1, .bool a0_2_2]]] = some [.agg 180 [.sl 2 (res.1.map (D.int .i64)), .sl 2 (res.2.1.map (D.int .i64)), .sl 2 (res.2.2.1.map (D.int .i64))], .bool res.2.2.2] := by
  revert h
  unfold p_spyref3_ends evTop
  simp only [List.map]
  rw [evF_s (fn := Try.f112) (msk := en112.ms) (hT := by rfl) (hb := by rfl)]
  refine rq_i fun c1 => ?_
  refine bnd_i fun o6 ho2 => ?_
  intro h
  simp only [go_sem, Nat.reduceAdd, Nat.reduceSub, Nat.reduceMul, Nat.reduceEqDiff, Nat.reduceBEq, Nat.reduceLT, Nat.reduceLeDiff, Nat.reducePow, Int.reduceToNat, Int.reduceLT, Int.reduceLE, Int.reduceGT, Int.reduceGE, Int.reduceEq, Int.reduceNeg, Int.reduceAdd, Int.reduceSub, Int.reduceMul, ↓reduceIte, reduceCtorEq, *]
  generalize hz4 : iter _ _ _ _ _ = z3
  have hq5 : Q_p_spyref3_ends_l0 a0_0_0 a0_0_1 a0_0_2 a0_1_0 a0_1_1 a0_1_2 a0_2_0 a0_2_1 a0_2_2 o6 z3 := by
    rw [← hz4]
    refine l_p_spyref3_ends_l0 L hL a0_0_0 a0_0_1 a0_0_2 a0_1_0 a0_1_1 a0_1_2 a0_2_0 a0_2_1 a0_2_2 _ L 0 ([] : List Int) ([] : List Int) ([] : List Int) _ _ _ c1 (cnt_0 (by decide) (by decide)) ?_ ?_ ?_ ho2
    all_goals simp only [go_sem, Nat.reduceAdd, Nat.reduceSub, Nat.reduceMul, Nat.reduceEqDiff, Nat.reduceBEq, Nat.reduceLT, Nat.reduceLeDiff, Nat.reducePow, Int.reduceToNat, Int.reduceLT, Int.reduceLE, Int.reduceGT, Int.reduceGE, Int.reduceEq, Int.reduceNeg, Int.reduceAdd, Int.reduceSub, Int.reduceMul, ↓reduceIte, reduceCtorEq, *]
  clear hz4 ho2
  rcases o6 with o6_0 | o6_1
  · obtain ⟨_, st7, rfl, rfl, ⟨k61, k62, k63⟩, ⟨k71, k72, k73⟩⟩ := hq5
    dsimp only at h
    revert h
    rintro ⟨⟩
    simp only [go_sem, Nat.reduceAdd, Nat.reduceSub, Nat.reduceMul, Nat.reduceEqDiff, Nat.reduceBEq, Nat.reduceLT, Nat.reduceLeDiff, Nat.reducePow, Int.reduceToNat, Int.reduceLT, Int.reduceLE, Int.reduceGT, Int.reduceGE, Int.reduceEq, Int.reduceNeg, Int.reduceAdd, Int.reduceSub, Int.reduceMul, ↓reduceIte, reduceCtorEq, *]
  · obtain ⟨_, st8, rfl, rfl, ⟨k81, k82, k83⟩⟩ := hq5
    dsimp only at h
    revert h
    rintro ⟨⟩
    simp only [go_sem, Nat.reduceAdd, Nat.reduceSub, Nat.reduceMul, Nat.reduceEqDiff, Nat.reduceBEq, Nat.reduceLT, Nat.reduceLeDiff, Nat.reducePow, Int.reduceToNat, Int.reduceLT, Int.reduceLE, Int.reduceGT, Int.reduceGE, Int.reduceEq, Int.reduceNeg, Int.reduceAdd, Int.reduceSub, Int.reduceMul, ↓reduceIte, reduceCtorEq, *]
noncomputable def s_spyref3_ends (L : Nat) : Ev.Spec := specP (cCons k66 cNil) (fun x => p_spyref3_ends L x.1.1.1 x.1.1.2.1 x.1.1.2.2.1 x.1.2.1.1 x.1.2.1.2.1 x.1.2.1.2.2.1 x.1.2.2.1.1 x.1.2.2.1.2.1 x.1.2.2.1.2.2.1) (fun r => [.agg 180 [.sl 2 (r.1.map (D.int .i64)), .sl 2 (r.2.1.map (D.int .i64)), .sl 2 (r.2.2.1.map (D.int .i64))], .bool r.2.2.2])
theorem s_spyref3_ends_run (L : Nat) (a0_0_0 : Int) (a0_0_1 : Int) (a0_0_2 : Bool) (a0_1_0 : Int) (a0_1_1 : Int) (a0_1_2 : Bool) (a0_2_0 : Int) (a0_2_1 : Int) (a0_2_2 : Bool) : (s_spyref3_ends L).run [.agg 66 [.agg 64 [.int .i64 a0_0_0, .int .i64 a0_0_1, .bool a0_0_2], .agg 64 [.int .i64 a0_1_0, .int .i64 a0_1_1, .bool a0_1_2], .agg 64 [.int .i64 a0_2_0, .int .i64 a0_2_1, .bool a0_2_2]]] = (p_spyref3_ends L a0_0_0 a0_0_1 a0_0_2 a0_1_0 a0_1_1 a0_1_2 a0_2_0 a0_2_1 a0_2_2).map fun r => [.agg 180 [.sl 2 (r.1.map (D.int .i64)), .sl 2 (r.2.1.map (D.int .i64)), .sl 2 (r.2.2.1.map (D.int .i64))], .bool r.2.2.2] := specP_run (cCons k66 cNil) (fun x => p_spyref3_ends L x.1.1.1 x.1.1.2.1 x.1.1.2.2.1 x.1.2.1.1 x.1.2.1.2.1 x.1.2.1.2.2.1 x.1.2.2.1.1 x.1.2.2.1.2.1 x.1.2.2.1.2.2.1) (fun r => [.agg 180 [.sl 2 (r.1.map (D.int .i64)), .sl 2 (r.2.1.map (D.int .i64)), .sl 2 (r.2.2.1.map (D.int .i64))], .bool r.2.2.2]) (((a0_0_0, a0_0_1, a0_0_2, ()), (a0_1_0, a0_1_1, a0_1_2, ()), (a0_2_0, a0_2_1, a0_2_2, ()), ()), ())
theorem ok_spyref3_ends (L : Nat) (hL : L ≤ 4611686018427387904) : SpecOk Try.prog 112 (s_spyref3_ends L) := specP_ok mixed (Go_spyref3_ends L hL) (To_spyref3_ends L) fun x r h => ⟨L, 1, e_spyref3_ends L hL x.1.1.1 x.1.1.2.1 x.1.1.2.2.1 x.1.2.1.1 x.1.2.1.2.1 x.1.2.1.2.2.1 x.1.2.2.1.1 x.1.2.2.1.2.1 x.1.2.2.1.2.2.1 r h⟩
end Go.Proofs.Ytnojehmbiceceaa.P
end
section
set_option linter.unusedVariables false
set_option linter.unusedSimpArgs false
set_option maxRecDepth 100000
namespace Go.Proofs.Ytnojehmbiceceaa.E
open Go.Ev
noncomputable def en113 : Entry := ⟨Try.f113, [(0, mb 25 0 [0, 3, 4]), (1000001, mb 25 0 [3]), (1000002, mb 25 0 [0, 3, 4]), (1000000, mb 25 0 [2])]⟩
theorem mk113_0 (vs : List V) : mask (maskOf en113.ms 0) vs = km 25 0 [0, 3, 4] vs := mask_mb _ _ _ _
theorem mk113_1000001 (vs : List V) : mask (maskOf en113.ms 1000001) vs = km 25 0 [3] vs := mask_mb _ _ _ _
theorem mk113_1000002 (vs : List V) : mask (maskOf en113.ms 1000002) vs = km 25 0 [0, 3, 4] vs := mask_mb _ _ _ _
theorem mk113_1000000 (vs : List V) : mask (maskOf en113.ms 1000000) vs = km 25 0 [2] vs := mask_mb _ _ _ _
theorem fz113_0 (lv : Nat) (f : Run) : frzF en113.ms lv 0 f = f := nr rfl
theorem fi113_0 (lv : Nat) (env : List V) (st : Store) (q : Store → Out) : frzI en113.ms lv 0 env st q = q st := nr rfl
noncomputable def lb113_0 : Code := loopN Try.f113 0
end Go.Proofs.Ytnojehmbiceceaa.E
end
