import Derived.Test.YtacoceibbheccaaGreatCore
namespace Go.Proofs.YtacoceibbheccaaGreat.K
section bits
theorem zN (n:Int) (k:Nat) (hk:k≤62):bits .and .i64 n ((2:Int) ^ k - 1)=n % (2:Int) ^ k:=by
  have hp:(2:Nat) ^ k≤2 ^ 62:=Nat.pow_le_pow_right (by decide) hk
  have hpos:0 < (2:Nat) ^ k:=Nat.pow_pos (by decide)
  have h1:((2:Int) ^ k - 1)=(((2 ^ k - 1:Nat)):Int):=by
    rw [Int.natCast_sub hpos];simp
  have h2:(BitVec.ofInt 64 n).toNat=(n % (2:Int) ^ 64).toNat:=by rw [BitVec.toNat_ofInt];rfl
  have h3:(BitVec.ofInt 64 (((2 ^ k - 1:Nat)):Int)).toNat=2 ^ k - 1:=by
    rw [BitVec.ofInt_natCast,BitVec.toNat_ofNat,Nat.mod_eq_of_lt]
    have:(2:Nat) ^ 62 < 2 ^ 64:=by decide
    omega
  rw [h1]
  have hb:bits .and .i64 n (((2 ^ k - 1:Nat)):Int)=IntKind.i64.wrap (((BitVec.ofInt 64 n &&& BitVec.ofInt 64 (((2 ^ k - 1:Nat)):Int)).toNat:Nat):Int):=rfl
  rw [hb,BitVec.toNat_and,h2,h3,Nat.and_two_pow_sub_one_eq_mod]
  have h4:(n % (2:Int) ^ 64).toNat % 2 ^ k < 2 ^ k:=Nat.mod_lt _ hpos
  have h5:(((n % (2:Int) ^ 64).toNat % 2 ^ k:Nat):Int)=n % (2:Int) ^ k:=by
    rw [Int.natCast_emod,Int.toNat_of_nonneg (Int.emod_nonneg _ (by decide))]
    have:((2 ^ k:Nat):Int)=(2:Int) ^ k:=by simp
    rw [this]
    refine Int.emod_emod_of_dvd n ⟨(2:Int) ^ (64 - k),?_⟩
    rw [← Int.pow_add]
    congr 1
    omega
  rw [h5]
  have h6:0≤n % (2:Int) ^ k:=by rw [← h5];omega
  have h7:n % (2:Int) ^ k < 2 ^ 62:=by
    rw [← h5]
    have:(2:Int) ^ 62=((2 ^ 62:Nat):Int):=by decide
    omega
  have h8:(2:Int) ^ 62=4611686018427387904:=by decide
  have:=vE (m:=n % (2:Int) ^ k) (by omega) (by omega)
  exact this
end bits
section ops
variable {P : Program} {ops : Array Oper} {Q : Exit → Act → World → Prop} {n : Nat} {e : Env} {w : World} {o : Oper} {rest : List Oper}
theorem qp (a m:Int) (hw:pH n ops o e) {d:Nat} (hd:o.dst=some d) (hdn:Nat.blt d n=true) (hr:(execOp (ev e) o).run P w=.ok (.value (.int .i64 (a.tmod m))) w) (h0:0≤a)
    (hk:WL P ops Q rest n (upd e d (.int .i64 (a % m))) w):WL P ops Q (o :: rest) n e w:=oQ hw hd hdn hr (by rw [Int.tmod_eq_emod_of_nonneg h0];exact hk)
theorem rU (a m:Int) (hw:pH n ops o e) {d:Nat} (hd:o.dst=some d) (hdn:Nat.blt d n=true) (hr:(execOp (ev e) o).run P w=.ok (.value (.int .i64 (IntKind.i64.wrap (a.tdiv m)))) w) (h0:0≤a)
    (h1:-9223372036854775808≤a / m) (h2:a / m≤9223372036854775807)
    (hk:WL P ops Q rest n (upd e d (.int .i64 (a / m))) w):WL P ops Q (o :: rest) n e w:=oQ hw hd hdn hr (by rw [Int.tdiv_eq_ediv_of_nonneg h0,vE h1 h2];exact hk)
theorem qc (a m M:Int) (k:Nat) (hw:pH n ops o e) {d:Nat} (hd:o.dst=some d) (hdn:Nat.blt d n=true) (hk1:k≤62) (hm:m=(2:Int) ^ k - 1) (hM:M=(2:Int) ^ k) (hr:(execOp (ev e) o).run P w=.ok (.value (.int .i64 (bits .and .i64 a m))) w)
    (hk:WL P ops Q rest n (upd e d (.int .i64 (a % M))) w):WL P ops Q (o :: rest) n e w:=oQ hw hd hdn hr (by rw [hm,zN a k hk1,← hM];exact hk)
theorem uf (a b:Int) (hw:pH n ops o e) {d T T':Nat} {x y:Operand} (hd:o.dst=some d) (hdn:Nat.blt d n=true) (ho:o.op=.binOp .shr T x y T') (hx:ev e x=.int .i64 a) (hy:ev e y=.int .i64 b) (h0:0≤b) (h1:b≤64)
    (hk:WL P ops Q rest n (upd e d (.int .i64 (a / (2:Int) ^ b.toNat))) w):WL P ops Q (o :: rest) n e w:=by
  refine oQ hw hd hdn ?_ hk
  unfold execOp
  have hG:(eqGuard .shr T x y (.int .i64 a) (.int .i64 b)).run P w=.ok () w:=rfl
  have hB:binOp .shr T (.int .i64 a) (.int .i64 b)=Op.shift .shr .i64 a .i64 b:=rfl
  simp [ho,hx,hy,hG,hB]
theorem Ba {src dst E:TypeId} {v:Value} (x:List UInt8) (hs:P.underlying src=some (.slice E)) (he:P.underlying E=some (.int .u8)) (hd:P.underlying dst=some .string) (hr:Rd w 1 v x.length (x.map bV)) :
    (convert src dst v).run P w=.ok (.string (ByteArray.mk x.toArray)) w:=by
  obtain ⟨A,c,rfl,h1,h2,h3,h4⟩:=hr
  rcases x with _|⟨b0,x⟩
  · rcases A with _|ad
    · rw [run_convert_bytes_nil w src E hs he _ _ dst hd];rfl
    · have hl:(loadCells ad 0).run P w=.ok (([]:List Int).map (Value.int .u8)).toArray w:=run_loadCells_list (P:=P) w ad [] (fun j v hj=>by simp at hj)
      rw [run_convert_bytes_string w src dst E _ _ c hs he hd]
      exact run_bytesToString w ad 0 c [] hl
  · obtain ⟨ad,rfl,hc⟩:=h4 (by simp)
    have hl:(loadCells ad (b0 :: x).length).run P w=.ok (((b0 :: x).map fun b=>((b.toNat:Nat):Int)).map (Value.int .u8)).toArray w:=by
      have:=run_loadCells_list (P:=P) w ad (((b0 :: x).map fun b=>((b.toNat:Nat):Int)).map (Value.int .u8)) (fun j v hj=>hc j v (by rw [← hj,List.map_map];rfl))
      simpa using this
    rw [run_convert_bytes_string w src dst E _ _ c hs he hd,run_bytesToString w ad _ c _ hl,foldl_push_bytes]
    have:((((b0 :: x).map fun b=>((b.toNat:Nat):Int)).map fun n=>UInt8.ofNat n.toNat))=b0 :: x:=by
      rw [List.map_map]
      conv=>rhs;rw [← List.map_id (b0 :: x)]
      refine List.map_congr_left fun b _=>?_
      simp
    rw [this]
    simp [ByteArray.empty,ByteArray.emptyWithCapacity]
    rfl
theorem ug (y:List UInt8) (hw:pH n ops o e) {d src dst E:Nat} {x:Operand} {v:Value} (hd:o.dst=some d) (hdn:Nat.blt d n=true) (ho:o.op=.convert src dst x) (hx:ev e x=v)
    (hs:P.underlying src=some (.slice E)) (he:P.underlying E=some (.int .u8)) (hds:P.underlying dst=some .string) (hr:Rd w 1 v y.length (y.map bV))
    (hk:WL P ops Q rest n (upd e d (.string (ByteArray.mk y.toArray))) w):WL P ops Q (o :: rest) n e w:=by
  refine oQ hw hd hdn ?_ hk
  unfold execOp
  simp [ho,hx,Ba y hs he hds hr]
end ops
def eqS (a b:ByteArray):Bool:=a.toList == b.toList
theorem vP (x y:List UInt8):eqS (ByteArray.mk x.toArray) (ByteArray.mk y.toArray)=decide (x=y):=by
  unfold eqS
  rw [ByteArray.toList_mk,ByteArray.toList_mk]
  by_cases h:x=y <;> simp [h]
end Go.Proofs.YtacoceibbheccaaGreat.K
