import Derived.Test.YtacoceibbheccaaGreatFunZ
namespace Go.Proofs.YtacoceibbheccaaGreat.K
set_option linter.unusedSimpArgs false
set_option linter.unusedVariables false
def ot (a b:Int):Int:=((a.toNat &&& b.toNat:Nat):Int)
def orI (a b:Int):Int:=((a.toNat ||| b.toNat:Nat):Int)
def nw (a b:Int):Int:=((a.toNat^^^b.toNat:Nat):Int)
theorem qr {a:Int} (h0:0≤a) (h1:a < 9223372036854775808):(BitVec.ofInt 64 a).toNat=a.toNat:=by
  rw [BitVec.toNat_ofInt]
  show (a % (18446744073709551616:Int)).toNat=a.toNat
  rw [Int.emod_eq_of_lt h0 (by omega)]
theorem uH {n:Nat} (h:n < 2 ^ 63):IntKind.i64.wrap ((n:Nat):Int)=(n:Int):=by
  have h2:(2:Nat) ^ 63=9223372036854775808:=by decide
  exact vE (by omega) (by omega)
theorem qH {a:Int} (h1:a < 9223372036854775808):a.toNat < 2 ^ 63:=by
  have:(2:Nat) ^ 63=9223372036854775808:=by decide
  omega
theorem Bh {a b:Int} (h0:0≤a) (h1:a < 9223372036854775808) (h2:0≤b) (h3:b < 9223372036854775808):bits .and .i64 a b=ot a b:=by
  have hb:bits .and .i64 a b=IntKind.i64.wrap (((BitVec.ofInt 64 a &&& BitVec.ofInt 64 b).toNat:Nat):Int):=rfl
  rw [hb,BitVec.toNat_and,qr h0 h1,qr h2 h3,uH (Nat.and_lt_two_pow _ (qH h3))]
  rfl
theorem Cf {a b:Int} (h0:0≤a) (h1:a < 9223372036854775808) (h2:0≤b) (h3:b < 9223372036854775808):bits .or .i64 a b=orI a b:=by
  have hb:bits .or .i64 a b=IntKind.i64.wrap (((BitVec.ofInt 64 a ||| BitVec.ofInt 64 b).toNat:Nat):Int):=rfl
  rw [hb,BitVec.toNat_or,qr h0 h1,qr h2 h3,uH (Nat.or_lt_two_pow (qH h1) (qH h3))]
  rfl
theorem Bg {a b:Int} (h0:0≤a) (h1:a < 9223372036854775808) (h2:0≤b) (h3:b < 9223372036854775808):bits .xor .i64 a b=nw a b:=by
  have hb:bits .xor .i64 a b=IntKind.i64.wrap (((BitVec.ofInt 64 a^^^BitVec.ofInt 64 b).toNat:Nat):Int):=rfl
  rw [hb,BitVec.toNat_xor,qr h0 h1,qr h2 h3,uH (Nat.xor_lt_two_pow (qH h1) (qH h3))]
  rfl
theorem BN (x y:UInt8):bits .xor .u8 ((x.toNat:Nat):Int) ((y.toNat:Nat):Int)=(((x^^^y).toNat:Nat):Int):=by
  have h:∀ z:UInt8,(BitVec.ofInt 8 ((z.toNat:Nat):Int)).toNat=z.toNat:=fun z=>by
    rw [BitVec.ofInt_natCast,BitVec.toNat_ofNat]
    exact Nat.mod_eq_of_lt z.toNat_lt
  have hb:bits .xor .u8 ((x.toNat:Nat):Int) ((y.toNat:Nat):Int)=IntKind.u8.wrap (((BitVec.ofInt 8 ((x.toNat:Nat):Int)^^^BitVec.ofInt 8 ((y.toNat:Nat):Int)).toNat:Nat):Int):=rfl
  rw [hb,BitVec.toNat_xor,h,h,UInt8.toNat_xor]
  have hl:x.toNat^^^y.toNat < 2 ^ 8:=Nat.xor_lt_two_pow x.toNat_lt y.toNat_lt
  have hl2:x.toNat^^^y.toNat < 256:=hl
  generalize x.toNat^^^y.toNat=m at hl2
  have:=xf (m:Int)
  rw [this]
  simp [by8]
  omega
theorem Be {a:Int} (h:a < 4294967296):a.toNat < 2 ^ 32:=by
  have:(2:Nat) ^ 32=4294967296:=by decide
  omega
theorem b32 {n:Nat} (h:n < 2 ^ 32):0≤((n:Nat):Int)∧((n:Nat):Int) < 4294967296:=by
  have:(2:Nat) ^ 32=4294967296:=by decide
  omega
theorem ox {a b:Int} (h1:a < 4294967296) (h2:b < 4294967296):0≤nw a b∧nw a b < 4294967296:=b32 (Nat.xor_lt_two_pow (Be h1) (Be h2))
theorem uD {a b:Int} (h1:a < 4294967296) (h2:b < 4294967296):0≤orI a b∧orI a b < 4294967296:=b32 (Nat.or_lt_two_pow (Be h1) (Be h2))
theorem qi {a b:Int} (h2:b < 4294967296):0≤ot a b∧ot a b < 4294967296:=b32 (Nat.and_lt_two_pow _ (Be h2))
theorem BX {a b:Int} (h1:a < 9223372036854775808) (h2:b < 9223372036854775808):0≤orI a b∧orI a b < 9223372036854775808:=by
  have:=Nat.or_lt_two_pow (qH h1) (qH h2)
  have h:(2:Nat) ^ 63=9223372036854775808:=by decide
  unfold orI
  omega
theorem yh {a:Int} (h0:0≤a) (h1:a < 4294967296) {n:Nat} (hn:n≤31):0≤a*(2:Int) ^ n∧a*(2:Int) ^ n < 9223372036854775808:=by
  have hp:(2:Int) ^ n≤2147483648:=by
    have:(2:Nat) ^ n≤2 ^ 31:=Nat.pow_le_pow_right (by decide) hn
    have h2:((2 ^ n:Nat):Int)=(2:Int) ^ n:=by simp
    rw [← h2]
    have:(2:Nat) ^ 31=2147483648:=by decide
    omega
  have hp0:0≤(2:Int) ^ n:=Int.pow_nonneg (by decide)
  refine ⟨Int.mul_nonneg h0 hp0,?_⟩
  have h3:a*(2:Int) ^ n≤a*2147483648:=Int.mul_le_mul_of_nonneg_left hp h0
  omega
theorem vq {a:Int} (h0:0≤a) (n:Nat):0≤a / (2:Int) ^ n∧a / (2:Int) ^ n≤a:=by
  have hp0:0 < (2:Int) ^ n:=Int.pow_pos (by decide)
  exact ⟨Int.ediv_nonneg h0 (Int.le_of_lt hp0),Int.ediv_le_self _ h0⟩
section ops
variable {P : Program} {ops : Array Oper} {Q : Exit → Act → World → Prop} {n : Nat} {e : Env} {w : World} {o : Oper} {rest : List Oper}
theorem rh (a b:Int) (hw:pH n ops o e) {d:Nat} (hd:o.dst=some d) (hdn:Nat.blt d n=true) (hr:(execOp (ev e) o).run P w=.ok (.value (.int .i64 (bits .and .i64 a b))) w)
    (h0:0≤a) (h1:a < 9223372036854775808) (h2:0≤b) (h3:b < 9223372036854775808) (hk:WL P ops Q rest n (upd e d (.int .i64 (ot a b))) w):WL P ops Q (o :: rest) n e w:=oQ hw hd hdn hr (by rw [Bh h0 h1 h2 h3];exact hk)
theorem we (a b:Int) (hw:pH n ops o e) {d:Nat} (hd:o.dst=some d) (hdn:Nat.blt d n=true) (hr:(execOp (ev e) o).run P w=.ok (.value (.int .i64 (bits .or .i64 a b))) w)
    (h0:0≤a) (h1:a < 9223372036854775808) (h2:0≤b) (h3:b < 9223372036854775808) (hk:WL P ops Q rest n (upd e d (.int .i64 (orI a b))) w):WL P ops Q (o :: rest) n e w:=oQ hw hd hdn hr (by rw [Cf h0 h1 h2 h3];exact hk)
theorem pD (a b:Int) (hw:pH n ops o e) {d:Nat} (hd:o.dst=some d) (hdn:Nat.blt d n=true) (hr:(execOp (ev e) o).run P w=.ok (.value (.int .i64 (bits .xor .i64 a b))) w)
    (h0:0≤a) (h1:a < 9223372036854775808) (h2:0≤b) (h3:b < 9223372036854775808) (hk:WL P ops Q rest n (upd e d (.int .i64 (nw a b))) w):WL P ops Q (o :: rest) n e w:=oQ hw hd hdn hr (by rw [Bg h0 h1 h2 h3];exact hk)
theorem rC (a b:UInt8) (hw:pH n ops o e) {d:Nat} (hd:o.dst=some d) (hdn:Nat.blt d n=true) (hr:(execOp (ev e) o).run P w=.ok (.value (.int .u8 (bits .xor .u8 ((a.toNat:Nat):Int) ((b.toNat:Nat):Int)))) w)
    (hk:WL P ops Q rest n (upd e d (.int .u8 (((a^^^b).toNat:Nat):Int))) w):WL P ops Q (o :: rest) n e w:=oQ hw hd hdn hr (by rw [BN];exact hk)
theorem tz (a b:Int) (hw:pH n ops o e) {d T T':Nat} {x y:Operand} (hd:o.dst=some d) (hdn:Nat.blt d n=true) (ho:o.op=.binOp .shl T x y T') (hx:ev e x=.int .i64 a) (hy:ev e y=.int .i64 b) (h0:0≤b) (h1:b≤31)
    (h2:0≤a) (h3:a < 4294967296) (hk:WL P ops Q rest n (upd e d (.int .i64 (a*(2:Int) ^ b.toNat))) w):WL P ops Q (o :: rest) n e w:=by
  have hb:=yh h2 h3 (n:=b.toNat) (by omega)
  refine oQ hw hd hdn ?_ hk
  unfold execOp
  have hG:(eqGuard .shl T x y (.int .i64 a) (.int .i64 b)).run P w=.ok () w:=rfl
  have hB:binOp .shl T (.int .i64 a) (.int .i64 b)=Op.shift .shl .i64 a .i64 b:=rfl
  simp [ho,hx,hy,hG,hB,shift_shl .i64 .i64 a b h0 (show b≤((IntKind.i64.bits:Nat):Int) from by show b≤64;omega),vE (m:=a*(2:Int) ^ b.toNat) (by omega) (by omega)]
theorem sJ (a b:Int) (hw:pH n ops o e) {d T T':Nat} {yk:IntKind} {x y:Operand} (hd:o.dst=some d) (hdn:Nat.blt d n=true) (ho:o.op=.binOp .shr T x y T') (hx:ev e x=.int .i64 a) (hy:ev e y=.int yk b) (h0:0≤b) (h1:b≤64)
    (hk:WL P ops Q rest n (upd e d (.int .i64 (a / (2:Int) ^ b.toNat))) w):WL P ops Q (o :: rest) n e w:=by
  refine oQ hw hd hdn ?_ hk
  unfold execOp
  have hG:(eqGuard .shr T x y (.int .i64 a) (.int yk b)).run P w=.ok () w:=rfl
  have hB:binOp .shr T (.int .i64 a) (.int yk b)=Op.shift .shr .i64 a yk b:=rfl
  simp [ho,hx,hy,hG,hB,shift_shr .i64 yk a b h0 (show b≤((IntKind.i64.bits:Nat):Int) from h1)]
theorem xZ (i:Int) {L g:Nat} {T E:TypeId} {k:IntKind} (hw:pH n ops o e) {d:Nat} {x y:Operand} (hd:o.dst=some d) (hdn:Nat.blt d n=true) (ho:o.op=.indexAddr T x y) (hT:P.underlying T=some (.array L E)) (hS:∀ w,(sizeOf E).run P w=.ok 1 w)
    (hx:ev e x=.pointer (some ⟨g,0,none⟩)) (hy:ev e y=.int k i) (h0:0≤i) (h1:i < L) (hk:WL P ops Q rest n (upd e d (.pointer (some ⟨g,i.toNat,none⟩))) w):WL P ops Q (o :: rest) n e w:=by
  refine oQ hw hd hdn ?_ hk
  unfold execOp
  have ha:(⟨g,0,none⟩:Addr).add i.toNat=⟨g,i.toNat,none⟩:=Am _ _
  simp [ho,hx,hy,Instr.indexAt,Instr.sureAddr,asIntOf,run_underlying hT,hS,h0,h1,ha,go_sem]
end ops
def rot (x n:Int):Int:=orI (x % 4294967296 / (2:Int) ^ n.toNat) (x % 4294967296*(2:Int) ^ (32 - n).toNat) % 4294967296
theorem oH (x n:Int):0≤rot x n∧rot x n < 4294967296:=by unfold rot;omega
def ra:List UInt8→Int→Int
  | [],n=>n
  | b :: l,n=>ra l (n*256+((b.toNat:Nat):Int))
def wq (b:List UInt8) (i k:Nat):Int:=ra ((b.drop i).take k) 0
theorem vG:∀ (l:List UInt8) (n:Int) (b:UInt8),ra (l++[b]) n=ra l n*256+((b.toNat:Nat):Int)
  | [],n,b=>rfl
  | a :: l,n,b=>vG l _ b
theorem Bi:∀ (l:List UInt8),0≤ra l 0∧ra l 0 < (256:Int) ^ l.length:=by
  have key:∀ (l:List UInt8) (n:Int),0≤n→0≤ra l n∧ra l n < (n+1)*(256:Int) ^ l.length:=by
    intro l
    induction l with
    | nil=>intro n hn;simp [ra];omega
    | cons a l ih =>
      intro n hn
      have ha:=a.toNat_lt
      have h:=ih (n*256+((a.toNat:Nat):Int)) (by omega)
      refine ⟨h.1,Int.lt_of_lt_of_le h.2 ?_⟩
      have hp:(0:Int)≤(256:Int) ^ l.length:=Int.pow_nonneg (by decide)
      have h2:n*256+((a.toNat:Nat):Int)+1≤(n+1)*256:=by omega
      calc (n*256+((a.toNat:Nat):Int)+1)*(256:Int) ^ l.length≤((n+1)*256)*(256:Int) ^ l.length:=Int.mul_le_mul_of_nonneg_right h2 hp
        _=(n+1)*(256:Int) ^ (a :: l).length:=by rw [List.length_cons,Int.pow_succ',Int.mul_assoc]
  intro l
  simpa using key l 0 (by omega)
theorem wo (b:List UInt8) (i k:Nat) (hk:k≤6):0≤wq b i k∧wq b i k < (256:Int) ^ k:=by
  have h:=Bi ((b.drop i).take k)
  refine ⟨h.1,Int.lt_of_lt_of_le h.2 ?_⟩
  have hl:((b.drop i).take k).length≤k:=by rw [List.length_take];omega
  have h2:(256:Nat) ^ ((b.drop i).take k).length≤256 ^ k:=Nat.pow_le_pow_right (by decide) hl
  have h3:((256 ^ ((b.drop i).take k).length:Nat):Int)=(256:Int) ^ ((b.drop i).take k).length:=by simp
  have h4:((256 ^ k:Nat):Int)=(256:Int) ^ k:=by simp
  rw [← h3,← h4]
  omega
def Aw (a:Int):Int:=nw (nw (rot a 7) (rot a 18)) (a / (2:Int) ^ (3:Int).toNat)
def yg (b:Int):Int:=nw (nw (rot b 17) (rot b 19)) (b / (2:Int) ^ (10:Int).toNat)
def rD (l:List Int) (i:Nat):Int:=(l.getD (i - 7) 0+l.getD (i - 16) 0+Aw (l.getD (i - 15) 0)+yg (l.getD (i - 2) 0)) % 4294967296
def oL (b:List UInt8):Nat→List Int
  | 0=>[]
  | k+1=>oL b k++[wq b (4*k) 4]
def schedN (b:List UInt8):Nat→List Int
  | 0=>oL b 16
  | k+1=>schedN b k++[rD (schedN b k) (k+16)]
def sm (b:List UInt8):List Int:=schedN b 48
theorem qW (b:List UInt8):∀ k,(oL b k).length=k
  | 0=>rfl
  | k+1=>by simp [oL,qW b k]
theorem qL (b:List UInt8):∀ k,(schedN b k).length=k+16
  | 0=>qW b 16
  | k+1=>by rw [schedN,List.length_append,qL b k];show k+16+1=k+1+16;omega
theorem vY {l:List Int} {x:Int} (h:qf l=true) (h1:0≤x) (h2:x < 4294967296):qf (l++[x])=true:=by
  unfold qf at *
  rw [List.all_append,h]
  simp
  omega
theorem vt (b:List UInt8):∀ k,qf (oL b k)=true
  | 0=>rfl
  | k+1=>vY (vt b k) (wo b (4*k) 4 (by omega)).1 (wo b (4*k) 4 (by omega)).2
theorem rs (b:List UInt8):∀ k,qf (schedN b k)=true
  | 0=>vt b 16
  | k+1=>vY (rs b k) (by unfold rD;omega) (by unfold rD;omega)
theorem rV {l:List Int} (h:qf l=true) (k:Nat):0≤l.getD k 0∧l.getD k 0 < 4294967296:=by
  by_cases hk:k < l.length
  · have:=Al h hk;omega
  · simp only [List.getD_eq_getElem?_getD,List.getElem?_eq_none (show l.length≤k by omega),Option.getD_none];omega
structure S8 where
  (a b c d e f g z:Int)
def S8.ok (s:S8):Prop:=(0≤s.a∧s.a < 4294967296)∧(0≤s.b∧s.b < 4294967296)∧(0≤s.c∧s.c < 4294967296)∧(0≤s.d∧s.d < 4294967296)∧(0≤s.e∧s.e < 4294967296)∧(0≤s.f∧s.f < 4294967296)∧(0≤s.g∧s.g < 4294967296)∧(0≤s.z∧s.z < 4294967296)
def kw:List Int:=[0x428a2f98,0x71374491,0xb5c0fbcf,0xe9b5dba5,0x3956c25b,0x59f111f1,0x923f82a4,0xab1c5ed5,
    0xd807aa98,0x12835b01,0x243185be,0x550c7dc3,0x72be5d74,0x80deb1fe,0x9bdc06a7,0xc19bf174,
    0xe49b69c1,0xefbe4786,0x0fc19dc6,0x240ca1cc,0x2de92c6f,0x4a7484aa,0x5cb0a9dc,0x76f988da,
    0x983e5152,0xa831c66d,0xb00327c8,0xbf597fc7,0xc6e00bf3,0xd5a79147,0x06ca6351,0x14292967,
    0x27b70a85,0x2e1b2138,0x4d2c6dfc,0x53380d13,0x650a7354,0x766a0abb,0x81c2c92e,0x92722c85,
    0xa2bfe8a1,0xa81a664b,0xc24b8b70,0xc76c51a3,0xd192e819,0xd6990624,0xf40e3585,0x106aa070,
    0x19a4c116,0x1e376c08,0x2748774c,0x34b0bcb5,0x391c0cb3,0x4ed8aa4a,0x5b9cca4f,0x682e6ff3,
    0x748f82ee,0x78a5636f,0x84c87814,0x8cc70208,0x90befffa,0xa4506ceb,0xbef9a3f7,0xc67178f2]
def k0:List Int:=[0x6a09e667,0xbb67ae85,0x3c6ef372,0xa54ff53a,0x510e527f,0x9b05688c,0x1f83d9ab,0x5be0cd19]
theorem CS:qf kw=true:=by decide
theorem CJ:rk k0 8=true:=by decide
def Cy (e:Int):Int:=nw (nw (rot e 6) (rot e 11)) (rot e 25)
def Dm (a:Int):Int:=nw (nw (rot a 2) (rot a 13)) (rot a 22)
def vW (e f g:Int):Int:=nw (ot e f) (ot (nw 4294967295 e) g)
def most (a b c:Int):Int:=nw (nw (ot a b) (ot a c)) (ot b c)
def tOf (w:List Int) (i:Nat) (s:S8):Int:=s.z+Cy s.e+vW s.e s.f s.g+kw.getD i 0+w.getD i 0
def uOf (s:S8):Int:=Dm s.a+most s.a s.b s.c
def yS (w:List Int) (i:Nat) (s:S8):S8:=⟨(tOf w i s+uOf s) % 4294967296,s.a,s.b,s.c,(s.d+tOf w i s) % 4294967296,s.e,s.f,s.g⟩
def ol (w:List Int) (s:S8):Nat→S8
  | 0=>s
  | k+1=>yS w k (ol w s k)
theorem tO {w:List Int} {s:S8} (h:s.ok):∀ k,(ol w s k).ok
  | 0=>h
  | k+1=>by
    obtain ⟨ha,hb,hc,hd,he,hf,hg,hz⟩:=tO (w:=w) h k
    refine ⟨⟨?_,?_⟩,ha,hb,hc,⟨?_,?_⟩,he,hf,hg⟩ <;> simp only [ol,yS] <;> omega
theorem vk (a b:Int):nw a b=nw b a:=by unfold nw;rw [Nat.xor_comm]
def oE (h:List Int):S8:=⟨h.getD 0 0,h.getD 1 0,h.getD 2 0,h.getD 3 0,h.getD 4 0,h.getD 5 0,h.getD 6 0,h.getD 7 0⟩
theorem uB {h:List Int} (hw:qf h=true):(oE h).ok:=⟨rV hw 0,rV hw 1,rV hw 2,rV hw 3,rV hw 4,rV hw 5,rV hw 6,rV hw 7⟩
def S8.list (s:S8):List Int:=[s.a,s.b,s.c,s.d,s.e,s.f,s.g,s.z]
def sc (h l:List Int):List Int:=List.zipWith (fun x y=>(x+y) % 4294967296) h l
def oK (h:List Int) (b:List UInt8):List Int:=bif rk h 8 then (bif decide ((b.length:Int)=64) then sc h (ol (sm b) (oE h) 64).list else h) else h
theorem vd {h l:List Int} (h1:h.length=8) (h2:l.length=8):(sc h l).length=8:=by simp [sc,h1,h2]
theorem CA (h l:List Int):qf (sc h l)=true:=by
  unfold qf sc
  rw [List.all_eq_true]
  intro x hx
  rw [List.mem_iff_getElem] at hx
  obtain ⟨i,hi,rfl⟩:=hx
  rw [List.getElem_zipWith,decide_eq_true_eq]
  omega
theorem xH {h:List Int} {b:List UInt8} (hw:rk h 8=true):rk (oK h b) 8=true:=by
  unfold oK
  rw [hw,cond_true]
  cases hb:decide ((b.length:Int)=64)
  · exact hw
  · have hl:=(qE hw).2
    have h8:h.length=8:=by omega
    have h9:=vd (l:=(ol (sm b) (oE h) 64).list) h8 rfl
    simp only [cond_true,rk,CA,Bool.true_and,decide_eq_true_eq,h9]
    rfl
theorem sG {h l:List Int} {k:Nat} (hk:k < h.length) (hl:h.length=l.length):((sc h l).take k++h.drop k).set k ((h.getD k 0+l.getD k 0) % 4294967296)=(sc h l).take (k+1)++h.drop (k+1):=by
  have ha:(sc h l).length=h.length:=by simp [sc,hl]
  rw [List.set_append_right _ _ (by rw [List.length_take];omega),List.length_take,Nat.min_eq_left (by omega),Nat.sub_self,List.drop_eq_getElem_cons hk,List.set_cons_zero,List.take_succ_eq_append_getElem (by omega),List.append_assoc]
  congr 1
  simp only [sc,List.getElem_zipWith,List.singleton_append,List.getD_eq_getElem?_getD,List.getElem?_eq_getElem hk,List.getElem?_eq_getElem (show k < l.length by omega),Option.getD_some]
theorem An {h l:List Int} {k:Nat} (hk:h.length≤k) (hl:h.length=l.length):(sc h l).take k++h.drop k=sc h l:=by
  have ha:(sc h l).length=h.length:=by simp [sc,hl]
  rw [List.drop_eq_nil_of_le hk,List.append_nil,List.take_of_length_le (by omega)]
def oX (h:List Int) (b:List UInt8):Nat→List Int
  | 0=>h
  | k+1=>oK (oX h b k) ((b.drop (64*k)).take 64)
theorem wu {h:List Int} {b:List UInt8} (hw:rk h 8=true):∀ k,rk (oX h b k) 8=true
  | 0=>hw
  | k+1=>xH (wu hw k)
theorem vL (h:List Int) (b p:List UInt8):∀ k,64*k≤b.length→oX h (b++p) k=oX h b k
  | 0,_=>rfl
  | k+1,hk=>by
    rw [oX,oX,vL h b p k (by omega),List.drop_append_of_le_length (by omega),List.take_append_of_le_length (by rw [List.length_drop];omega)]
theorem vM (h:List Int) (b:List UInt8) (k:Nat):∀ j,oX h b (k+j)=oX (oX h b k) (b.drop (64*k)) j
  | 0=>rfl
  | j+1=>by
    rw [← Nat.add_assoc,oX,oX,vM h b k j,List.drop_drop,show 64*k+64*j=64*(k+j) by omega]
def nE (h:List Int) (b:List UInt8):List Int×List UInt8:=(oX h b (b.length / 64),b.drop (64*(b.length / 64)))
def BF (n:Int):Nat:=((64 - (n+9) % 64) % 64).toNat
def pad (n:Int):List UInt8:=[128]++List.replicate (BF n) 0++[0,0,0,0]++qg (8*n) 4 4
theorem wk (n:Int) (h:0≤n):((n.toNat+(pad n).length) % 64=0)∧(pad n).length≤72:=by
  simp only [pad,List.length_append,List.length_cons,List.length_nil,List.length_replicate,ru,BF]
  omega
def oI:List Int→List UInt8
  | []=>[]
  | x :: l=>qg x 4 4++oI l
theorem sg:∀ l,(oI l).length=4*l.length
  | []=>rfl
  | x :: l=>by rw [oI,List.length_append,ru,sg l,List.length_cons];omega
theorem xr (l:List Int) (x:Int):oI (l++[x])=oI l++qg x 4 4:=by
  induction l with
  | nil=>simp [oI]
  | cons a l ih=>simp [oI,ih]
theorem sM (b:List UInt8) (x:Int):pB b x 4=b++qg x 4 4:=rfl
def sha (b:List UInt8):List UInt8:=bif decide (1048576 < (b.length:Int)) then [] else oI (oX k0 (b++pad b.length) ((b++pad b.length).length / 64))
theorem sy {h:List Int} {b:List UInt8} (hw:rk h 8=true) (k:Nat):(oX h b k).length=8:=by
  have:=(qE (wu (b:=b) hw k)).2
  omega
theorem yj {b:List UInt8} (h:b.length≤1048576):(sha b).length=32:=by
  unfold sha
  rw [decide_eq_false (by omega),cond_false,sg,sy CJ]
theorem tb (b:List UInt8):(sha b).length≤32:=by
  by_cases h:b.length≤1048576
  · rw [yj h];exact Nat.le_refl _
  · unfold sha;rw [decide_eq_true (by omega),cond_true];simp
theorem yi {b:List UInt8} (h:b.length≤1048576):sha b=oI (nE (nE k0 b).1 ((nE k0 b).2++pad b.length)).1:=by
  have hp:=wk b.length (by omega)
  rw [Int.toNat_natCast] at hp
  unfold sha nE
  rw [decide_eq_false (by omega),cond_false]
  congr 1
  simp only [List.length_append,List.length_drop]
  have h1:=vM k0 (b++pad b.length) (b.length / 64) ((b.length - 64*(b.length / 64)+(pad b.length).length) / 64)
  rw [vL k0 b (pad b.length) (b.length / 64) (by omega),List.drop_append_of_le_length (by omega)] at h1
  rw [← h1]
  congr 1
  omega
end Go.Proofs.YtacoceibbheccaaGreat.K
