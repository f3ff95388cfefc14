/- Bits of nonnegative numbers, rotations, and a digest on lists. It names no program. -/
import Derived.Test.YtacoceibbheccaaFunZ
namespace Go.Proofs.Ytacoceibbheccaa.K
set_option linter.unusedSimpArgs false
set_option linter.unusedVariables false
def andI (a b : Int) : Int := ((a.toNat &&& b.toNat : Nat) : Int)
def orI (a b : Int) : Int := ((a.toNat ||| b.toNat : Nat) : Int)
def xorI (a b : Int) : Int := ((a.toNat ^^^ b.toNat : Nat) : Int)
theorem ofInt_nat {a : Int} (h0 : 0 ≤ a) (h1 : a < 9223372036854775808) : (BitVec.ofInt 64 a).toNat = a.toNat := by
  rw [BitVec.toNat_ofInt]
  show (a % (18446744073709551616 : Int)).toNat = a.toNat
  rw [Int.emod_eq_of_lt h0 (by omega)]
theorem i64_nat {n : Nat} (h : n < 2 ^ 63) : IntKind.i64.wrap ((n : Nat) : Int) = (n : Int) := by
  have h2 : (2 : Nat) ^ 63 = 9223372036854775808 := by decide
  exact i64_in (by omega) (by omega)
theorem nat_lt63 {a : Int} (h1 : a < 9223372036854775808) : a.toNat < 2 ^ 63 := by
  have : (2 : Nat) ^ 63 = 9223372036854775808 := by decide
  omega
theorem i64_and {a b : Int} (h0 : 0 ≤ a) (h1 : a < 9223372036854775808) (h2 : 0 ≤ b) (h3 : b < 9223372036854775808) : bits .and .i64 a b = andI a b := by
  have hb : bits .and .i64 a b = IntKind.i64.wrap (((BitVec.ofInt 64 a &&& BitVec.ofInt 64 b).toNat : Nat) : Int) := rfl
  rw [hb, BitVec.toNat_and, ofInt_nat h0 h1, ofInt_nat h2 h3, i64_nat (Nat.and_lt_two_pow _ (nat_lt63 h3))]
  rfl
theorem i64_or {a b : Int} (h0 : 0 ≤ a) (h1 : a < 9223372036854775808) (h2 : 0 ≤ b) (h3 : b < 9223372036854775808) : bits .or .i64 a b = orI a b := by
  have hb : bits .or .i64 a b = IntKind.i64.wrap (((BitVec.ofInt 64 a ||| BitVec.ofInt 64 b).toNat : Nat) : Int) := rfl
  rw [hb, BitVec.toNat_or, ofInt_nat h0 h1, ofInt_nat h2 h3, i64_nat (Nat.or_lt_two_pow (nat_lt63 h1) (nat_lt63 h3))]
  rfl
theorem i64_xor {a b : Int} (h0 : 0 ≤ a) (h1 : a < 9223372036854775808) (h2 : 0 ≤ b) (h3 : b < 9223372036854775808) : bits .xor .i64 a b = xorI a b := by
  have hb : bits .xor .i64 a b = IntKind.i64.wrap (((BitVec.ofInt 64 a ^^^ BitVec.ofInt 64 b).toNat : Nat) : Int) := rfl
  rw [hb, BitVec.toNat_xor, ofInt_nat h0 h1, ofInt_nat h2 h3, i64_nat (Nat.xor_lt_two_pow (nat_lt63 h1) (nat_lt63 h3))]
  rfl
theorem u8_xor (x y : UInt8) : bits .xor .u8 ((x.toNat : Nat) : Int) ((y.toNat : Nat) : Int) = (((x ^^^ y).toNat : Nat) : Int) := by
  have h : ∀ z : UInt8, (BitVec.ofInt 8 ((z.toNat : Nat) : Int)).toNat = z.toNat := fun z => by
    rw [BitVec.ofInt_natCast, BitVec.toNat_ofNat]
    exact Nat.mod_eq_of_lt z.toNat_lt
  have hb : bits .xor .u8 ((x.toNat : Nat) : Int) ((y.toNat : Nat) : Int) = IntKind.u8.wrap (((BitVec.ofInt 8 ((x.toNat : Nat) : Int) ^^^ BitVec.ofInt 8 ((y.toNat : Nat) : Int)).toNat : Nat) : Int) := rfl
  rw [hb, BitVec.toNat_xor, h, h, UInt8.toNat_xor]
  have hl : x.toNat ^^^ y.toNat < 2 ^ 8 := Nat.xor_lt_two_pow x.toNat_lt y.toNat_lt
  have hl2 : x.toNat ^^^ y.toNat < 256 := hl
  generalize x.toNat ^^^ y.toNat = m at hl2
  have := by8_wrap (m : Int)
  rw [this]
  simp [by8]
  omega
theorem lt32 {a : Int} (h : a < 4294967296) : a.toNat < 2 ^ 32 := by
  have : (2 : Nat) ^ 32 = 4294967296 := by decide
  omega
theorem b32 {n : Nat} (h : n < 2 ^ 32) : 0 ≤ ((n : Nat) : Int) ∧ ((n : Nat) : Int) < 4294967296 := by
  have : (2 : Nat) ^ 32 = 4294967296 := by decide
  omega
theorem xorI_b {a b : Int} (h1 : a < 4294967296) (h2 : b < 4294967296) : 0 ≤ xorI a b ∧ xorI a b < 4294967296 := b32 (Nat.xor_lt_two_pow (lt32 h1) (lt32 h2))
theorem orI_b {a b : Int} (h1 : a < 4294967296) (h2 : b < 4294967296) : 0 ≤ orI a b ∧ orI a b < 4294967296 := b32 (Nat.or_lt_two_pow (lt32 h1) (lt32 h2))
theorem andI_b {a b : Int} (h2 : b < 4294967296) : 0 ≤ andI a b ∧ andI a b < 4294967296 := b32 (Nat.and_lt_two_pow _ (lt32 h2))
theorem orI_p {a b : Int} (h1 : a < 9223372036854775808) (h2 : b < 9223372036854775808) : 0 ≤ orI a b ∧ orI a b < 9223372036854775808 := by
  have := Nat.or_lt_two_pow (nat_lt63 h1) (nat_lt63 h2)
  have h : (2 : Nat) ^ 63 = 9223372036854775808 := by decide
  unfold orI
  omega
theorem shl_b {a : Int} (h0 : 0 ≤ a) (h1 : a < 4294967296) {n : Nat} (hn : n ≤ 31) : 0 ≤ a * (2 : Int) ^ n ∧ a * (2 : Int) ^ n < 9223372036854775808 := by
  have hp : (2 : Int) ^ n ≤ 2147483648 := by
    have : (2 : Nat) ^ n ≤ 2 ^ 31 := Nat.pow_le_pow_right (by decide) hn
    have h2 : ((2 ^ n : Nat) : Int) = (2 : Int) ^ n := by simp
    rw [← h2]
    have : (2 : Nat) ^ 31 = 2147483648 := by decide
    omega
  have hp0 : 0 ≤ (2 : Int) ^ n := Int.pow_nonneg (by decide)
  refine ⟨Int.mul_nonneg h0 hp0, ?_⟩
  have h3 : a * (2 : Int) ^ n ≤ a * 2147483648 := Int.mul_le_mul_of_nonneg_left hp h0
  omega
theorem shr_b {a : Int} (h0 : 0 ≤ a) (n : Nat) : 0 ≤ a / (2 : Int) ^ n ∧ a / (2 : Int) ^ n ≤ a := by
  have hp0 : 0 < (2 : Int) ^ n := Int.pow_pos (by decide)
  exact ⟨Int.ediv_nonneg h0 (Int.le_of_lt hp0), Int.ediv_le_self _ h0⟩
section ops
variable {P : Program} {ops : Array Oper} {Q : Exit → Act → World → Prop} {n : Nat} {e : Env} {w : World} {o : Oper} {rest : List Oper}
theorem wl_andG (a b : Int) (hw : Want n ops o e) {d : Nat} (hd : o.dst = some d) (hdn : Nat.blt d n = true) (hr : (execOp (ev e) o).run P w = .ok (.value (.int .i64 (bits .and .i64 a b))) w)
    (h0 : 0 ≤ a) (h1 : a < 9223372036854775808) (h2 : 0 ≤ b) (h3 : b < 9223372036854775808) (hk : WL P ops Q rest n (upd e d (.int .i64 (andI a b))) w) : WL P ops Q (o :: rest) n e w := wl_val hw hd hdn hr (by rw [i64_and h0 h1 h2 h3]; exact hk)
theorem wl_or (a b : Int) (hw : Want n ops o e) {d : Nat} (hd : o.dst = some d) (hdn : Nat.blt d n = true) (hr : (execOp (ev e) o).run P w = .ok (.value (.int .i64 (bits .or .i64 a b))) w)
    (h0 : 0 ≤ a) (h1 : a < 9223372036854775808) (h2 : 0 ≤ b) (h3 : b < 9223372036854775808) (hk : WL P ops Q rest n (upd e d (.int .i64 (orI a b))) w) : WL P ops Q (o :: rest) n e w := wl_val hw hd hdn hr (by rw [i64_or h0 h1 h2 h3]; exact hk)
theorem wl_xor (a b : Int) (hw : Want n ops o e) {d : Nat} (hd : o.dst = some d) (hdn : Nat.blt d n = true) (hr : (execOp (ev e) o).run P w = .ok (.value (.int .i64 (bits .xor .i64 a b))) w)
    (h0 : 0 ≤ a) (h1 : a < 9223372036854775808) (h2 : 0 ≤ b) (h3 : b < 9223372036854775808) (hk : WL P ops Q rest n (upd e d (.int .i64 (xorI a b))) w) : WL P ops Q (o :: rest) n e w := wl_val hw hd hdn hr (by rw [i64_xor h0 h1 h2 h3]; exact hk)
theorem wl_xor8 (a b : UInt8) (hw : Want n ops o e) {d : Nat} (hd : o.dst = some d) (hdn : Nat.blt d n = true) (hr : (execOp (ev e) o).run P w = .ok (.value (.int .u8 (bits .xor .u8 ((a.toNat : Nat) : Int) ((b.toNat : Nat) : Int)))) w)
    (hk : WL P ops Q rest n (upd e d (.int .u8 (((a ^^^ b).toNat : Nat) : Int))) w) : WL P ops Q (o :: rest) n e w := wl_val hw hd hdn hr (by rw [u8_xor]; exact hk)
theorem wl_shl (a b : Int) (hw : Want n ops o e) {d T T' : Nat} {x y : Operand} (hd : o.dst = some d) (hdn : Nat.blt d n = true) (ho : o.op = .binOp .shl T x y T') (hx : ev e x = .int .i64 a) (hy : ev e y = .int .i64 b) (h0 : 0 ≤ b) (h1 : b ≤ 31)
    (h2 : 0 ≤ a) (h3 : a < 4294967296) (hk : WL P ops Q rest n (upd e d (.int .i64 (a * (2 : Int) ^ b.toNat))) w) : WL P ops Q (o :: rest) n e w := by
  have hb := shl_b h2 h3 (n := b.toNat) (by omega)
  refine wl_val hw hd hdn ?_ hk
  unfold execOp
  have hG : (eqGuard .shl T x y (.int .i64 a) (.int .i64 b)).run P w = .ok () w := rfl
  have hB : binOp .shl T (.int .i64 a) (.int .i64 b) = Op.shift .shl .i64 a .i64 b := rfl
  simp [ho, hx, hy, hG, hB, shift_shl .i64 .i64 a b h0 (show b ≤ ((IntKind.i64.bits : Nat) : Int) from by show b ≤ 64; omega), i64_in (m := a * (2 : Int) ^ b.toNat) (by omega) (by omega)]
theorem wl_shrU (a b : Int) (hw : Want n ops o e) {d T T' : Nat} {yk : IntKind} {x y : Operand} (hd : o.dst = some d) (hdn : Nat.blt d n = true) (ho : o.op = .binOp .shr T x y T') (hx : ev e x = .int .i64 a) (hy : ev e y = .int yk b) (h0 : 0 ≤ b) (h1 : b ≤ 64)
    (hk : WL P ops Q rest n (upd e d (.int .i64 (a / (2 : Int) ^ b.toNat))) w) : WL P ops Q (o :: rest) n e w := by
  refine wl_val hw hd hdn ?_ hk
  unfold execOp
  have hG : (eqGuard .shr T x y (.int .i64 a) (.int yk b)).run P w = .ok () w := rfl
  have hB : binOp .shr T (.int .i64 a) (.int yk b) = Op.shift .shr .i64 a yk b := rfl
  simp [ho, hx, hy, hG, hB, shift_shr .i64 yk a b h0 (show b ≤ ((IntKind.i64.bits : Nat) : Int) from h1)]
theorem wl_indexA (i : Int) {L g : Nat} {T E : TypeId} {k : IntKind} (hw : Want n ops o e) {d : Nat} {x y : Operand} (hd : o.dst = some d) (hdn : Nat.blt d n = true) (ho : o.op = .indexAddr T x y) (hT : P.underlying T = some (.array L E)) (hS : ∀ w, (sizeOf E).run P w = .ok 1 w)
    (hx : ev e x = .pointer (some ⟨g, 0, none⟩)) (hy : ev e y = .int k i) (h0 : 0 ≤ i) (h1 : i < L) (hk : WL P ops Q rest n (upd e d (.pointer (some ⟨g, i.toNat, none⟩))) w) : WL P ops Q (o :: rest) n e w := by
  refine wl_val hw hd hdn ?_ hk
  unfold execOp
  have ha : (⟨g, 0, none⟩ : Addr).add i.toNat = ⟨g, i.toNat, none⟩ := addr0 _ _
  simp [ho, hx, hy, Instr.indexAt, Instr.sureAddr, asIntOf, run_underlying hT, hS, h0, h1, ha, go_sem]
end ops
/-- a rotation, for 1 ≤ n ≤ 31 -/
def rot (x n : Int) : Int := orI (x % 4294967296 / (2 : Int) ^ n.toNat) (x % 4294967296 * (2 : Int) ^ (32 - n).toNat) % 4294967296
theorem rot_b (x n : Int) : 0 ≤ rot x n ∧ rot x n < 4294967296 := by unfold rot; omega
def getV : List UInt8 → Int → Int
  | [], n => n
  | b :: l, n => getV l (n * 256 + ((b.toNat : Nat) : Int))
def getNv (b : List UInt8) (i k : Nat) : Int := getV ((b.drop i).take k) 0
theorem getV_snoc : ∀ (l : List UInt8) (n : Int) (b : UInt8), getV (l ++ [b]) n = getV l n * 256 + ((b.toNat : Nat) : Int)
  | [], n, b => rfl
  | a :: l, n, b => getV_snoc l _ b
theorem getV_lt : ∀ (l : List UInt8), 0 ≤ getV l 0 ∧ getV l 0 < (256 : Int) ^ l.length := by
  have key : ∀ (l : List UInt8) (n : Int), 0 ≤ n → 0 ≤ getV l n ∧ getV l n < (n + 1) * (256 : Int) ^ l.length := by
    intro l
    induction l with
    | nil => intro n hn; simp [getV]; omega
    | cons a l ih =>
      intro n hn
      have ha := a.toNat_lt
      have h := ih (n * 256 + ((a.toNat : Nat) : Int)) (by omega)
      refine ⟨h.1, Int.lt_of_lt_of_le h.2 ?_⟩
      have hp : (0 : Int) ≤ (256 : Int) ^ l.length := Int.pow_nonneg (by decide)
      have h2 : n * 256 + ((a.toNat : Nat) : Int) + 1 ≤ (n + 1) * 256 := by omega
      calc (n * 256 + ((a.toNat : Nat) : Int) + 1) * (256 : Int) ^ l.length ≤ ((n + 1) * 256) * (256 : Int) ^ l.length := Int.mul_le_mul_of_nonneg_right h2 hp
        _ = (n + 1) * (256 : Int) ^ (a :: l).length := by rw [List.length_cons, Int.pow_succ', Int.mul_assoc]
  intro l
  simpa using key l 0 (by omega)
theorem getNv_b (b : List UInt8) (i k : Nat) (hk : k ≤ 6) : 0 ≤ getNv b i k ∧ getNv b i k < (256 : Int) ^ k := by
  have h := getV_lt ((b.drop i).take k)
  refine ⟨h.1, Int.lt_of_lt_of_le h.2 ?_⟩
  have hl : ((b.drop i).take k).length ≤ k := by rw [List.length_take]; omega
  have h2 : (256 : Nat) ^ ((b.drop i).take k).length ≤ 256 ^ k := Nat.pow_le_pow_right (by decide) hl
  have h3 : ((256 ^ ((b.drop i).take k).length : Nat) : Int) = (256 : Int) ^ ((b.drop i).take k).length := by simp
  have h4 : ((256 ^ k : Nat) : Int) = (256 : Int) ^ k := by simp
  rw [← h3, ← h4]
  omega
def sigLow (a : Int) : Int := xorI (xorI (rot a 7) (rot a 18)) (a / (2 : Int) ^ (3 : Int).toNat)
def sigHigh (b : Int) : Int := xorI (xorI (rot b 17) (rot b 19)) (b / (2 : Int) ^ (10 : Int).toNat)
def schedNext (l : List Int) (i : Nat) : Int := (l.getD (i - 7) 0 + l.getD (i - 16) 0 + sigLow (l.getD (i - 15) 0) + sigHigh (l.getD (i - 2) 0)) % 4294967296
def sched16 (b : List UInt8) : Nat → List Int
  | 0 => []
  | k + 1 => sched16 b k ++ [getNv b (4 * k) 4]
def schedN (b : List UInt8) : Nat → List Int
  | 0 => sched16 b 16
  | k + 1 => schedN b k ++ [schedNext (schedN b k) (k + 16)]
def schedule (b : List UInt8) : List Int := schedN b 48
theorem sched16_len (b : List UInt8) : ∀ k, (sched16 b k).length = k
  | 0 => rfl
  | k + 1 => by simp [sched16, sched16_len b k]
theorem schedN_len (b : List UInt8) : ∀ k, (schedN b k).length = k + 16
  | 0 => sched16_len b 16
  | k + 1 => by rw [schedN, List.length_append, schedN_len b k]; show k + 16 + 1 = k + 1 + 16; omega
theorem allW_snoc {l : List Int} {x : Int} (h : allW l = true) (h1 : 0 ≤ x) (h2 : x < 4294967296) : allW (l ++ [x]) = true := by
  unfold allW at *
  rw [List.all_append, h]
  simp
  omega
theorem sched16_w (b : List UInt8) : ∀ k, allW (sched16 b k) = true
  | 0 => rfl
  | k + 1 => allW_snoc (sched16_w b k) (getNv_b b (4 * k) 4 (by omega)).1 (getNv_b b (4 * k) 4 (by omega)).2
theorem schedN_w (b : List UInt8) : ∀ k, allW (schedN b k) = true
  | 0 => sched16_w b 16
  | k + 1 => allW_snoc (schedN_w b k) (by unfold schedNext; omega) (by unfold schedNext; omega)
theorem wget {l : List Int} (h : allW l = true) (k : Nat) : 0 ≤ l.getD k 0 ∧ l.getD k 0 < 4294967296 := by
  by_cases hk : k < l.length
  · have := allW_get h hk; omega
  · simp only [List.getD_eq_getElem?_getD, List.getElem?_eq_none (show l.length ≤ k by omega), Option.getD_none]; omega
structure S8 where
  (a b c d e f g z : Int)
def S8.ok (s : S8) : Prop := (0 ≤ s.a ∧ s.a < 4294967296) ∧ (0 ≤ s.b ∧ s.b < 4294967296) ∧ (0 ≤ s.c ∧ s.c < 4294967296) ∧ (0 ≤ s.d ∧ s.d < 4294967296) ∧ (0 ≤ s.e ∧ s.e < 4294967296) ∧ (0 ≤ s.f ∧ s.f < 4294967296) ∧ (0 ≤ s.g ∧ s.g < 4294967296) ∧ (0 ≤ s.z ∧ s.z < 4294967296)
def kw : List Int := [0x428a2f98, 0x71374491, 0xb5c0fbcf, 0xe9b5dba5, 0x3956c25b, 0x59f111f1, 0x923f82a4, 0xab1c5ed5,
    0xd807aa98, 0x12835b01, 0x243185be, 0x550c7dc3, 0x72be5d74, 0x80deb1fe, 0x9bdc06a7, 0xc19bf174,
    0xe49b69c1, 0xefbe4786, 0x0fc19dc6, 0x240ca1cc, 0x2de92c6f, 0x4a7484aa, 0x5cb0a9dc, 0x76f988da,
    0x983e5152, 0xa831c66d, 0xb00327c8, 0xbf597fc7, 0xc6e00bf3, 0xd5a79147, 0x06ca6351, 0x14292967,
    0x27b70a85, 0x2e1b2138, 0x4d2c6dfc, 0x53380d13, 0x650a7354, 0x766a0abb, 0x81c2c92e, 0x92722c85,
    0xa2bfe8a1, 0xa81a664b, 0xc24b8b70, 0xc76c51a3, 0xd192e819, 0xd6990624, 0xf40e3585, 0x106aa070,
    0x19a4c116, 0x1e376c08, 0x2748774c, 0x34b0bcb5, 0x391c0cb3, 0x4ed8aa4a, 0x5b9cca4f, 0x682e6ff3,
    0x748f82ee, 0x78a5636f, 0x84c87814, 0x8cc70208, 0x90befffa, 0xa4506ceb, 0xbef9a3f7, 0xc67178f2]
def k0 : List Int := [0x6a09e667, 0xbb67ae85, 0x3c6ef372, 0xa54ff53a, 0x510e527f, 0x9b05688c, 0x1f83d9ab, 0x5be0cd19]
theorem kw_w : allW kw = true := by decide
theorem k0_w : areW k0 8 = true := by decide
def big1 (e : Int) : Int := xorI (xorI (rot e 6) (rot e 11)) (rot e 25)
def big0 (a : Int) : Int := xorI (xorI (rot a 2) (rot a 13)) (rot a 22)
def choice (e f g : Int) : Int := xorI (andI e f) (andI (xorI 4294967295 e) g)
def most (a b c : Int) : Int := xorI (xorI (andI a b) (andI a c)) (andI b c)
def tOf (w : List Int) (i : Nat) (s : S8) : Int := s.z + big1 s.e + choice s.e s.f s.g + kw.getD i 0 + w.getD i 0
def uOf (s : S8) : Int := big0 s.a + most s.a s.b s.c
def cmpStep (w : List Int) (i : Nat) (s : S8) : S8 := ⟨(tOf w i s + uOf s) % 4294967296, s.a, s.b, s.c, (s.d + tOf w i s) % 4294967296, s.e, s.f, s.g⟩
def cmpN (w : List Int) (s : S8) : Nat → S8
  | 0 => s
  | k + 1 => cmpStep w k (cmpN w s k)
theorem cmpN_ok {w : List Int} {s : S8} (h : s.ok) : ∀ k, (cmpN w s k).ok
  | 0 => h
  | k + 1 => by
    obtain ⟨ha, hb, hc, hd, he, hf, hg, hz⟩ := cmpN_ok (w := w) h k
    refine ⟨⟨?_, ?_⟩, ha, hb, hc, ⟨?_, ?_⟩, he, hf, hg⟩ <;> simp only [cmpN, cmpStep] <;> omega
theorem big1_b (e : Int) : 0 ≤ big1 e ∧ big1 e < 4294967296 := xorI_b (xorI_b (rot_b _ _).2 (rot_b _ _).2).2 (rot_b _ _).2
theorem big0_b (e : Int) : 0 ≤ big0 e ∧ big0 e < 4294967296 := xorI_b (xorI_b (rot_b _ _).2 (rot_b _ _).2).2 (rot_b _ _).2
theorem choice_b {e f g : Int} (h1 : f < 4294967296) (h2 : g < 4294967296) : 0 ≤ choice e f g ∧ choice e f g < 4294967296 := xorI_b (andI_b h1).2 (andI_b h2).2
theorem most_b {a b c : Int} (h1 : b < 4294967296) (h2 : c < 4294967296) : 0 ≤ most a b c ∧ most a b c < 4294967296 := xorI_b (xorI_b (andI_b h1).2 (andI_b h2).2).2 (andI_b h2).2
theorem xorI_comm (a b : Int) : xorI a b = xorI b a := by unfold xorI; rw [Nat.xor_comm]
def s8of (h : List Int) : S8 := ⟨h.getD 0 0, h.getD 1 0, h.getD 2 0, h.getD 3 0, h.getD 4 0, h.getD 5 0, h.getD 6 0, h.getD 7 0⟩
theorem s8of_ok {h : List Int} (hw : allW h = true) : (s8of h).ok := ⟨wget hw 0, wget hw 1, wget hw 2, wget hw 3, wget hw 4, wget hw 5, wget hw 6, wget hw 7⟩
def S8.list (s : S8) : List Int := [s.a, s.b, s.c, s.d, s.e, s.f, s.g, s.z]
def addL (h l : List Int) : List Int := List.zipWith (fun x y => (x + y) % 4294967296) h l
def compress (h : List Int) (b : List UInt8) : List Int := bif areW h 8 then (bif decide ((b.length : Int) = 64) then addL h (cmpN (schedule b) (s8of h) 64).list else h) else h
theorem addL_len {h l : List Int} (h1 : h.length = 8) (h2 : l.length = 8) : (addL h l).length = 8 := by simp [addL, h1, h2]
theorem addL_w (h l : List Int) : allW (addL h l) = true := by
  unfold allW addL
  rw [List.all_eq_true]
  intro x hx
  rw [List.mem_iff_getElem] at hx
  obtain ⟨i, hi, rfl⟩ := hx
  rw [List.getElem_zipWith, decide_eq_true_eq]
  omega
theorem compress_w {h : List Int} {b : List UInt8} (hw : areW h 8 = true) : areW (compress h b) 8 = true := by
  unfold compress
  rw [hw, cond_true]
  cases hb : decide ((b.length : Int) = 64)
  · exact hw
  · have hl := (areW_t hw).2
    have h8 : h.length = 8 := by omega
    have h9 := addL_len (l := (cmpN (schedule b) (s8of h) 64).list) h8 rfl
    simp only [cond_true, areW, addL_w, Bool.true_and, decide_eq_true_eq, h9]
    rfl
theorem addL_next {h l : List Int} {k : Nat} (hk : k < h.length) (hl : h.length = l.length) : ((addL h l).take k ++ h.drop k).set k ((h.getD k 0 + l.getD k 0) % 4294967296) = (addL h l).take (k + 1) ++ h.drop (k + 1) := by
  have ha : (addL h l).length = h.length := by simp [addL, hl]
  rw [List.set_append_right _ _ (by rw [List.length_take]; omega), List.length_take, Nat.min_eq_left (by omega), Nat.sub_self, List.drop_eq_getElem_cons hk, List.set_cons_zero, List.take_succ_eq_append_getElem (by omega), List.append_assoc]
  congr 1
  simp only [addL, List.getElem_zipWith, List.singleton_append, List.getD_eq_getElem?_getD, List.getElem?_eq_getElem hk, List.getElem?_eq_getElem (show k < l.length by omega), Option.getD_some]
theorem addL_end {h l : List Int} {k : Nat} (hk : h.length ≤ k) (hl : h.length = l.length) : (addL h l).take k ++ h.drop k = addL h l := by
  have ha : (addL h l).length = h.length := by simp [addL, hl]
  rw [List.drop_eq_nil_of_le hk, List.append_nil, List.take_of_length_le (by omega)]
/-- blocks of 64 -/
def foldK (h : List Int) (b : List UInt8) : Nat → List Int
  | 0 => h
  | k + 1 => compress (foldK h b k) ((b.drop (64 * k)).take 64)
theorem foldK_w {h : List Int} {b : List UInt8} (hw : areW h 8 = true) : ∀ k, areW (foldK h b k) 8 = true
  | 0 => hw
  | k + 1 => compress_w (foldK_w hw k)
theorem foldK_app (h : List Int) (b p : List UInt8) : ∀ k, 64 * k ≤ b.length → foldK h (b ++ p) k = foldK h b k
  | 0, _ => rfl
  | k + 1, hk => by
    rw [foldK, foldK, foldK_app h b p k (by omega), List.drop_append_of_le_length (by omega), List.take_append_of_le_length (by rw [List.length_drop]; omega)]
theorem foldK_add (h : List Int) (b : List UInt8) (k : Nat) : ∀ j, foldK h b (k + j) = foldK (foldK h b k) (b.drop (64 * k)) j
  | 0 => rfl
  | j + 1 => by
    rw [← Nat.add_assoc, foldK, foldK, foldK_add h b k j, List.drop_drop, show 64 * k + 64 * j = 64 * (k + j) by omega]
def compAll (h : List Int) (b : List UInt8) : List Int × List UInt8 := (foldK h b (b.length / 64), b.drop (64 * (b.length / 64)))
def padK (n : Int) : Nat := ((64 - (n + 9) % 64) % 64).toNat
def pad (n : Int) : List UInt8 := [128] ++ List.replicate (padK n) 0 ++ [0, 0, 0, 0] ++ putK (8 * n) 4 4
theorem pad_len (n : Int) (h : 0 ≤ n) : ((n.toNat + (pad n).length) % 64 = 0) ∧ (pad n).length ≤ 72 := by
  simp only [pad, List.length_append, List.length_cons, List.length_nil, List.length_replicate, putK_len, padK]
  omega
def wordB : List Int → List UInt8
  | [] => []
  | x :: l => putK x 4 4 ++ wordB l
theorem wordB_len : ∀ l, (wordB l).length = 4 * l.length
  | [] => rfl
  | x :: l => by rw [wordB, List.length_append, putK_len, wordB_len l, List.length_cons]; omega
theorem wordB_snoc (l : List Int) (x : Int) : wordB (l ++ [x]) = wordB l ++ putK x 4 4 := by
  induction l with
  | nil => simp [wordB]
  | cons a l ih => simp [wordB, ih]
theorem putN4 (b : List UInt8) (x : Int) : putN b x 4 = b ++ putK x 4 4 := rfl
def sha (b : List UInt8) : List UInt8 := bif decide (1048576 < (b.length : Int)) then [] else wordB (foldK k0 (b ++ pad b.length) ((b ++ pad b.length).length / 64))
theorem foldK_len {h : List Int} {b : List UInt8} (hw : areW h 8 = true) (k : Nat) : (foldK h b k).length = 8 := by
  have := (areW_t (foldK_w (b := b) hw k)).2
  omega
theorem sha_len {b : List UInt8} (h : b.length ≤ 1048576) : (sha b).length = 32 := by
  unfold sha
  rw [decide_eq_false (by omega), cond_false, wordB_len, foldK_len k0_w]
theorem sha_le (b : List UInt8) : (sha b).length ≤ 32 := by
  by_cases h : b.length ≤ 1048576
  · rw [sha_len h]; exact Nat.le_refl _
  · unfold sha; rw [decide_eq_true (by omega), cond_true]; simp
/-- the digest in two parts -/
theorem sha_parts {b : List UInt8} (h : b.length ≤ 1048576) : sha b = wordB (compAll (compAll k0 b).1 ((compAll k0 b).2 ++ pad b.length)).1 := by
  have hp := pad_len b.length (by omega)
  rw [Int.toNat_natCast] at hp
  unfold sha compAll
  rw [decide_eq_false (by omega), cond_false]
  congr 1
  simp only [List.length_append, List.length_drop]
  have h1 := foldK_add k0 (b ++ pad b.length) (b.length / 64) ((b.length - 64 * (b.length / 64) + (pad b.length).length) / 64)
  rw [foldK_app k0 b (pad b.length) (b.length / 64) (by omega), List.drop_append_of_le_length (by omega)] at h1
  rw [← h1]
  congr 1
  omega
end Go.Proofs.Ytacoceibbheccaa.K
