import Derived.Test.YtacoceibbheccaaGreatHash
import Derived.Test.YtacoceibbheccaaGreatList
namespace Go.Proofs.YtacoceibbheccaaGreat.K
set_option linter.unusedSimpArgs false
set_option linter.unusedVariables false
section Co
variable {key head b x : List UInt8} {i n : Int} {k : Nat}
def Gb (key head:List UInt8) (i:Int):List UInt8:=bif decide (0≤i) && decide (i≤6) && decide ((head.length:Int)≤100) then Ff key (Et (115 :: head) i 4) else []
theorem Hk (h:i < 0∨6 < i∨100 < (head.length:Int)):Gb key head i=[]:=by
  unfold Gb
  have:(decide (0≤i) && decide (i≤6) && decide ((head.length:Int)≤100))=false:=by
    simp only [Bool.and_eq_false_iff,decide_eq_false_iff_not];omega
  rw [this,cond_false]
theorem Hj (h0:0≤i) (h1:i≤6) (h2:(head.length:Int)≤100) (hb:x=115 :: head):Gb key head i=Ff key (Et x i 4):=by
  unfold Gb
  rw [decide_eq_true h0,decide_eq_true h1,decide_eq_true h2,hb]
  rfl
theorem IP (key head:List UInt8) (i:Int):(Gb key head i).length≤32∧(i < 0∨6 < i∨100 < (head.length:Int)∨1048576 < (key.length:Int)∨(Gb key head i).length=32):=by
  by_cases h:i < 0∨6 < i∨100 < (head.length:Int)
  · rw [Hk h];exact ⟨Nat.zero_le _,by omega⟩
  · rw [Hj (by omega) (by omega) (by omega) rfl]
    have h1:=HM key (Et (115 :: head) i 4)
    have h2:=Fa (115 :: head) i 4
    simp only [List.length_cons] at h2
    omega
def ES (key head:List UInt8):Nat→List UInt8
  | 0=>[]
  | k+1=>ES key head k++Gb key head ((k:Nat):Int)
theorem Ia (h1:(key.length:Int)≤1048576) (h2:(head.length:Int)≤100):∀ k,k≤7→(ES key head k).length=32*k
  | 0,_=>rfl
  | k+1,h=>by
    have h3:=IP key head ((k:Nat):Int)
    rw [ES,List.length_append,Ia h1 h2 k (by omega)]
    omega
theorem JK (h1:(key.length:Int)≤1048576) (h2:(head.length:Int)≤100) (k:Nat):7 < k∨(ES key head k).length=32*k:=by
  by_cases h:k≤7
  · exact .inr (Ia h1 h2 k h)
  · exact .inl (by omega)
theorem Kt (h1:(key.length:Int)≤1048576) (h2:(head.length:Int)≤100):∀ (j k m:Nat),k+j≤7→m≤32*k→(ES key head (k+j)).take m=(ES key head k).take m
  | 0,k,m,_,_=>rfl
  | j+1,k,m,h,hm=>by
    rw [← Nat.add_assoc,ES,List.take_append_of_le_length (by rw [Ia h1 h2 _ (by omega)];omega)]
    exact Kt h1 h2 j k m (by omega) hm
def Co (key head:List UInt8) (n:Int):List UInt8:=bif decide (0≤n) && decide (n≤200) && decide ((head.length:Int)≤100) && decide ((key.length:Int)≤1048576) then (ES key head 7).take n.toNat else []
theorem FG (h:n < 0∨200 < n∨100 < (head.length:Int)∨1048576 < (key.length:Int)):Co key head n=[]:=by
  unfold Co
  have:(decide (0≤n) && decide (n≤200) && decide ((head.length:Int)≤100) && decide ((key.length:Int)≤1048576))=false:=by
    simp only [Bool.and_eq_false_iff,decide_eq_false_iff_not];omega
  rw [this,cond_false]
theorem Ge (h0:0≤n) (h1:n≤200) (h2:(head.length:Int)≤100) (h3:(key.length:Int)≤1048576) (hk:n≤32*(k:Int)) (hk2:32*(k:Int) < n+32):Co key head n=(ES key head k).take n.toNat:=by
  unfold Co
  rw [decide_eq_true h0,decide_eq_true h1,decide_eq_true h2,decide_eq_true h3]
  have:=Kt h3 h2 (7 - k) k n.toNat (by omega) (by omega)
  rw [show k+(7 - k)=7 by omega] at this
  exact this
theorem FM (key head:List UInt8) (n:Int):(Co key head n).length≤200∧(n < 0∨200 < n∨100 < (head.length:Int)∨1048576 < (key.length:Int)∨(Co key head n).length=n.toNat):=by
  by_cases h:n < 0∨200 < n∨100 < (head.length:Int)∨1048576 < (key.length:Int)
  · rw [FG h];exact ⟨Nat.zero_le _,by omega⟩
  · have hl:=Ia (key:=key) (head:=head) (by omega) (by omega) 7 (Nat.le_refl _)
    have:(Co key head n).length=n.toNat:=by
      unfold Co
      rw [decide_eq_true (show 0≤n by omega),decide_eq_true (show n≤200 by omega),decide_eq_true (show (head.length:Int)≤100 by omega),decide_eq_true (show (key.length:Int)≤1048576 by omega)]
      show ((ES key head 7).take n.toNat).length=n.toNat
      rw [List.length_take,hl];omega
    omega
def FL (b s:List UInt8):List UInt8:=List.zipWith (fun x y=>x^^^y) b s
theorem Kn {b s:List UInt8} (h:k < b.length) (hs:k < s.length):FL (b.take k) (s.take k)++[b.getD k 0^^^s.getD k 0]=FL (b.take (k+1)) (s.take (k+1)):=by
  have h1:b.getD k 0=b[k]:=by simp [List.getD_eq_getElem?_getD,List.getElem?_eq_getElem h]
  have h2:s.getD k 0=s[k]:=by simp [List.getD_eq_getElem?_getD,List.getElem?_eq_getElem hs]
  rw [List.take_succ_eq_append_getElem h,List.take_succ_eq_append_getElem hs,h1,h2]
  unfold FL
  rw [List.zipWith_append (by simp only [List.length_take];omega)]
  rfl
theorem Mx {b s:List UInt8} (h:k < b.length) (hs:k < s.length):FL (b.take k) (s.take k)++[s.getD k 0^^^b.getD k 0]=FL (b.take (k+1)) (s.take (k+1)):=by
  rw [← Kn h hs,UInt8.xor_comm]
theorem Nd (b s:List UInt8) (k:Nat):(FL (b.take k) (s.take k)).length≤k:=by
  unfold FL
  rw [List.length_zipWith,List.length_take]
  omega
def HX (key head b:List UInt8):List UInt8:=bif decide ((b.length:Int)≤200) && decide ((head.length:Int)≤100) && decide ((key.length:Int)≤1048576) then FL b (Co key head (b.length:Int)) else []
theorem Hs (h:200 < (b.length:Int)∨100 < (head.length:Int)∨1048576 < (key.length:Int)):HX key head b=[]:=by
  unfold HX
  have:(decide ((b.length:Int)≤200) && decide ((head.length:Int)≤100) && decide ((key.length:Int)≤1048576))=false:=by
    simp only [Bool.and_eq_false_iff,decide_eq_false_iff_not];omega
  rw [this,cond_false]
theorem PR (h1:(b.length:Int)≤200) (h2:(head.length:Int)≤100) (h3:(key.length:Int)≤1048576):HX key head b=FL b (Co key head (b.length:Int)):=by
  unfold HX
  rw [decide_eq_true h1,decide_eq_true h2,decide_eq_true h3]
  rfl
theorem HV (h1:(b.length:Int)≤200) (h2:(head.length:Int)≤100) (h3:(key.length:Int)≤1048576) (hk:b.length≤k):HX key head b=FL (b.take k) ((Co key head (b.length:Int)).take k):=by
  have:=FM key head (b.length:Int)
  rw [PR h1 h2 h3,List.take_of_length_le hk,List.take_of_length_le (by omega)]
theorem LV (key head b:List UInt8):(HX key head b).length≤b.length∧(200 < (b.length:Int)∨100 < (head.length:Int)∨1048576 < (key.length:Int)∨(HX key head b).length=b.length):=by
  by_cases h:200 < (b.length:Int)∨100 < (head.length:Int)∨1048576 < (key.length:Int)
  · rw [Hs h];exact ⟨Nat.zero_le _,by omega⟩
  · have hs:=FM key head (b.length:Int)
    rw [PR (by omega) (by omega) (by omega)]
    unfold FL
    rw [List.length_zipWith]
    omega
end Co
section head
def CY (role:Int) (sn:List UInt8) (epoch seq:Int):List UInt8:=if (role=0∨role=1)∧(sn.length:Int)=12∧(0≤epoch∧epoch≤4294967295)∧(0≤seq∧seq≤281474976710655) then by8 role :: (sn++(Fg epoch 4 4++Fg seq 6 6)) else []
variable {role epoch seq : Int} {sn x : List UInt8}
theorem Fp (h:(¬ role=0∧¬ role=1)∨¬ (sn.length:Int)=12∨epoch < 0∨4294967295 < epoch∨seq < 0∨281474976710655 < seq):CY role sn epoch seq=[]:=by
  unfold CY
  rw [if_neg (by omega)]
theorem Fo (h1:role=0∨role=1) (h2:(sn.length:Int)=12) (h3:0≤epoch∧epoch≤4294967295) (h4:0≤seq∧seq≤281474976710655) (hx:x=by8 role :: (sn++(Fg epoch 4 4++Fg seq 6 6))):CY role sn epoch seq=x:=by
  unfold CY
  rw [if_pos ⟨h1,h2,h3,h4⟩,hx]
theorem Fl (role:Int) (sn:List UInt8) (epoch seq:Int):(CY role sn epoch seq).length=0∨(CY role sn epoch seq).length=23:=by
  unfold CY
  split
  · rename_i h
    right
    simp only [List.length_cons,List.length_append,Gt]
    omega
  · exact .inl rfl
theorem KC (v n:Int):(Et [] v n).length≤6:=by simpa using Fa [] v n
theorem Gl (n:Nat) (h:n≤31):0 < 1*(2:Int) ^ n∧1*(2:Int) ^ n < 4294967296:=by
  have h2:(2:Nat) ^ n≤2 ^ 31:=Nat.pow_le_pow_right (by decide) h
  have h3:(2:Nat) ^ 31=2147483648:=by decide
  have h4:0 < (2:Nat) ^ n:=Nat.pow_pos (by decide)
  have h5:1*(2:Int) ^ n=((2 ^ n:Nat):Int):=by rw [Int.one_mul];simp
  omega
theorem IW (b:List UInt8) (x:Int):Et b x 6=b++Fg x 6 6:=rfl
end head
section tag
def Iv (key b:List UInt8):List UInt8:=(Ff key b).take 16
theorem LK {key b:List UInt8} (h:(Ff key b).length=0):Iv key b=[]:=by
  unfold Iv
  rw [List.length_eq_zero_iff.1 h]
  rfl
theorem HZ (key b:List UInt8):(Iv key b).length=0∨(Iv key b).length=16:=by
  have:=HM key b
  unfold Iv
  rw [List.length_take]
  omega
def orX (a b:List UInt8):Nat→Int
  | 0=>0
  | k+1=>orI (orX a b k) (((a.getD k 0^^^b.getD k 0).toNat:Nat):Int)
theorem Ll (a b:List UInt8):∀ k,∃ m:Nat,orX a b k=(m:Int)∧m < 256
  | 0=>⟨0,rfl,by decide⟩
  | k+1=>by
    obtain ⟨m,h1,h2⟩:=Ll a b k
    refine ⟨m ||| (a.getD k 0^^^b.getD k 0).toNat,?_,Nat.or_lt_two_pow (n:=8) h2 (UInt8.toNat_lt _)⟩
    rw [orX,h1]
    rfl
theorem Rn (a b:List UInt8) (k:Nat):0≤orX a b k∧orX a b k < 256:=by
  obtain ⟨m,h1,h2⟩:=Ll a b k
  omega
theorem LS (a b:List UInt8):∀ k,orX a b k=0↔∀ j,j < k→a.getD j 0=b.getD j 0
  | 0=>⟨fun _ j h=>by omega,fun _=>rfl⟩
  | k+1=>by
    obtain ⟨m,h1,h2⟩:=Ll a b k
    have h3:orX a b (k+1)=((m ||| (a.getD k 0^^^b.getD k 0).toNat:Nat):Int):=by rw [orX,h1];rfl
    have h4:orX a b (k+1)=0↔orX a b k=0∧a.getD k 0=b.getD k 0:=by
      rw [h3,h1]
      constructor
      · intro h
        have h5:m ||| (a.getD k 0^^^b.getD k 0).toNat=0:=by omega
        have h6:=Nat.or_eq_zero_iff.1 h5
        refine ⟨by omega,?_⟩
        have h7:a.getD k 0^^^b.getD k 0=0:=UInt8.toNat_inj.1 (by simpa using h6.2)
        exact UInt8.xor_eq_zero_iff.1 h7
      · rintro ⟨h5,h6⟩
        rw [h6,UInt8.xor_self]
        simp
        omega
    rw [h4,LS a b k]
    constructor
    · rintro ⟨h5,h6⟩ j hj
      rcases Nat.lt_succ_iff_lt_or_eq.1 hj with h|rfl
      · exact h5 j h
      · exact h6
    · intro h
      exact ⟨fun j hj=>h j (by omega),h k (by omega)⟩
def Fx (a b:List UInt8):Int:=bif decide ((a.length:Int)=(b.length:Int)) then orX a b a.length else -1
theorem IK {a b:List UInt8} (h:¬ (a.length:Int)=(b.length:Int)):Fx a b = -1:=by unfold Fx;rw [decide_eq_false h,cond_false]
theorem IJ {a b:List UInt8} {k:Nat} (h:(a.length:Int)=(b.length:Int)) (hk:a.length≤k) (hk2:k≤a.length):Fx a b=orX a b k:=by
  obtain rfl:k=a.length:=by omega
  unfold Fx;rw [decide_eq_true h,cond_true]
theorem ML (a b:List UInt8):Fx a b=0↔a=b:=by
  by_cases h:(a.length:Int)=(b.length:Int)
  · rw [IJ h (Nat.le_refl _) (Nat.le_refl _),LS]
    constructor
    · intro hj
      refine List.ext_getElem (by omega) fun j h1 h2=>?_
      have:=hj j h1
      simpa [List.getD_eq_getElem?_getD,List.getElem?_eq_getElem h1,List.getElem?_eq_getElem h2] using this
    · rintro rfl j _;rfl
  · rw [IK h]
    constructor
    · intro h1;omega
    · rintro rfl;exact absurd rfl h
end tag
section win
def HR (a b:Int):Int:=((a.toNat^^^(a.toNat &&& b.toNat):Nat):Int)
theorem IR {a b:Int} (h1:a < 4294967296):0≤HR a b∧HR a b < 4294967296:=b32 (Nat.xor_lt_two_pow (Qy h1) (Nat.lt_of_le_of_lt Nat.and_le_left (Qy h1)))
theorem Pb {a b:Int} (h0:0≤a) (h1:a < 9223372036854775808) (h2:0≤b) (h3:b < 9223372036854775808):bits .andNot .i64 a b=HR a b:=by
  have hb:bits .andNot .i64 a b=IntKind.i64.wrap (((BitVec.ofInt 64 a &&& ~~~ BitVec.ofInt 64 b).toNat:Nat):Int):=rfl
  have e1:(BitVec.ofInt 64 a &&& ~~~ BitVec.ofInt 64 b)=BitVec.ofInt 64 a^^^(BitVec.ofInt 64 a &&& BitVec.ofInt 64 b):=by
    refine BitVec.eq_of_getLsbD_eq fun i hi=>?_
    simp only [BitVec.getLsbD_and,BitVec.getLsbD_not,BitVec.getLsbD_xor,hi,decide_true,Bool.true_and]
    cases (BitVec.ofInt 64 a).getLsbD i <;> cases (BitVec.ofInt 64 b).getLsbD i <;> rfl
  rw [hb,e1,BitVec.toNat_xor,BitVec.toNat_and,Fs h0 h1,Fs h2 h3,JV (Nat.xor_lt_two_pow (FI h1) (Nat.lt_of_le_of_lt Nat.and_le_left (FI h1)))]
  rfl
theorem Nl {P:Program} {ops:Array Oper} {Q:Exit→Act→World→Prop} {n:Nat} {e:Env} {w:World} {o:Oper} {rest:List Oper} (a b:Int) (hw:EI n ops o e) {d:Nat} (hd:o.dst=some d) (hdn:Nat.blt d n=true)
    (hr:(execOp (ev e) o).run P w=.ok (.value (.int .i64 (bits .andNot .i64 a b))) w) (h0:0≤a) (h1:a < 9223372036854775808) (h2:0≤b) (h3:b < 9223372036854775808)
    (hk:WL P ops Q rest n (upd e d (.int .i64 (HR a b))) w):WL P ops Q (o :: rest) n e w:=DS hw hd hdn hr (by rw [Pb h0 h1 h2 h3];exact hk)
def Nz (k:Int):Int:=1*(2:Int) ^ (k % 32).toNat
theorem LQ (k:Int):0 < Nz k∧Nz k < 4294967296∧(Nz k).toNat=2 ^ (k % 32).toNat:=by
  have h1:(k % 32).toNat≤31:=by omega
  have h2:(2:Nat) ^ (k % 32).toNat≤2 ^ 31:=Nat.pow_le_pow_right (by decide) h1
  have h3:(2:Nat) ^ 31=2147483648:=by decide
  have h4:0 < (2:Nat) ^ (k % 32).toNat:=Nat.pow_pos (by decide)
  have h5:Nz k=((2 ^ (k % 32).toNat:Nat):Int):=by unfold Nz;rw [Int.one_mul];simp
  omega
def atW (l:List Int) (k:Int):Int:=l.getD ((k % 1024) / 32).toNat 0
def QO (l:List Int) (k:Int):List Int:=l.set ((k % 1024) / 32).toNat (HR (atW l k) (Nz k))
def OH (l:List Int) (k:Int):List Int:=l.set ((k % 1024) / 32).toNat (orI (atW l k) (Nz k))
theorem SC (l:List Int) (k:Int):l.set ((k % 1024) / 32).toNat (HR (l.getD ((k % 1024) / 32).toNat 0) (1*(2:Int) ^ ((k % 1024) % 32).toNat))=QO l k:=by
  unfold QO atW Nz
  rw [show k % 1024 % 32=k % 32 by omega]
theorem PK (l:List Int) (k:Int):l.set ((k % 1024) / 32).toNat (orI (l.getD ((k % 1024) / 32).toNat 0) (1*(2:Int) ^ ((k % 1024) % 32).toNat))=OH l k:=by
  unfold OH atW Nz
  rw [show k % 1024 % 32=k % 32 by omega]
def Eu (l:List Int) (a:Int):Nat→List Int
  | 0=>l
  | j+1=>QO (Eu l a j) (a+((j:Nat):Int))
theorem Mq {l:List Int} (h:Fj l=true) (i:Nat) {v:Int} (h0:0≤v) (h1:v < 4294967296):Fj (l.set i v)=true:=by
  unfold Fj at h ⊢
  rw [List.all_eq_true] at h ⊢
  intro x hx
  rcases List.mem_or_eq_of_mem_set hx with hx|rfl
  · exact h x hx
  · simp;omega
theorem Ot {l:List Int} (h:Fj l=true) (k:Int):0≤atW l k∧atW l k < 4294967296:=Ha h _
theorem Qb {l:List Int} (h:Fj l=true) (k:Int):Fj (QO l k)=true:=Mq h _ (IR (Ot h k).2).1 (IR (Ot h k).2).2
theorem Nw {l:List Int} (h:Fj l=true) (k:Int):Fj (OH l k)=true:=Mq h _ (JP (Ot h k).2 (LQ k).2.1).1 (JP (Ot h k).2 (LQ k).2.1).2
theorem Hd {l:List Int} (h:Fj l=true) (a:Int):∀ j,Fj (Eu l a j)=true
  | 0=>h
  | j+1=>Qb (Hd h a j) _
theorem FK (l:List Int) (a:Int):∀ j,(Eu l a j).length=l.length
  | 0=>rfl
  | j+1=>by rw [Eu,QO,List.length_set,FK l a j]
theorem JM (l:List Int) (k:Int):(OH l k).length=l.length:=by rw [OH,List.length_set]
def Nb (l:List Int) (n:Int):Bool:=decide ((atW l n / (2:Int) ^ (n % 32).toNat) % 2=1)
theorem GW {l:List Int} (h:Fj l=true) (n:Int):Nb l n=(atW l n).toNat.testBit (n % 32).toNat:=by
  have hb:=Ot h n
  unfold Nb
  rw [Nat.testBit_eq_decide_div_mod_eq]
  have h1:atW l n=(((atW l n).toNat:Nat):Int):=by omega
  have h2:(2:Int) ^ (n % 32).toNat=((2 ^ (n % 32).toNat:Nat):Int):=by simp
  have h3:(atW l n / (2:Int) ^ (n % 32).toNat) % 2=(((atW l n).toNat / 2 ^ (n % 32).toNat % 2:Nat):Int):=by
    rw [h2];conv=>lhs;rw [h1]
    simp
  rw [h3]
  have h4:(((atW l n).toNat / 2 ^ (n % 32).toNat % 2:Nat):Int)=1↔(atW l n).toNat / 2 ^ (n % 32).toNat % 2=1:=by omega
  exact decide_eq_decide.2 h4
theorem Oq (l:List Int) (k n v:Int) (hl:l.length=32):atW (l.set ((k % 1024) / 32).toNat v) n=if (k % 1024) / 32=(n % 1024) / 32 then v else atW l n:=by
  unfold atW
  rw [List.getD_eq_getElem?_getD,List.getElem?_set]
  split
  · rename_i h
    rw [if_pos (by omega),if_pos (by omega)]
    rfl
  · rename_i h
    rw [if_neg (by omega),List.getD_eq_getElem?_getD]
theorem PA {l:List Int} (h:Fj l=true) (hl:l.length=32) (k n:Int):Nb (QO l k) n=(Nb l n && !decide (n % 1024=k % 1024)):=by
  rw [GW (Qb h k),GW h]
  unfold QO
  rw [Oq l k n _ hl]
  split
  · rename_i hw
    have hat:atW l k=atW l n:=by unfold atW;rw [hw]
    have h1:(HR (atW l k) (Nz k)).toNat=(atW l n).toNat^^^((atW l n).toNat &&& 2 ^ (k % 32).toNat):=by
      unfold HR
      rw [(LQ k).2.2,hat]
      exact Int.toNat_natCast _
    rw [h1,Nat.testBit_xor,Nat.testBit_and,Nat.testBit_two_pow]
    have h2:decide ((k % 32).toNat=(n % 32).toNat)=decide (n % 1024=k % 1024):=decide_eq_decide.2 (by omega)
    rw [h2]
    cases (atW l n).toNat.testBit (n % 32).toNat <;> cases decide (n % 1024=k % 1024) <;> rfl
  · rename_i hw
    rw [decide_eq_false (by omega)]
    simp
theorem Mp {l:List Int} (h:Fj l=true) (hl:l.length=32) (k n:Int):Nb (OH l k) n=(Nb l n || decide (n % 1024=k % 1024)):=by
  rw [GW (Nw h k),GW h]
  unfold OH
  rw [Oq l k n _ hl]
  split
  · rename_i hw
    have hat:atW l k=atW l n:=by unfold atW;rw [hw]
    have h1:(orI (atW l k) (Nz k)).toNat=(atW l n).toNat ||| 2 ^ (k % 32).toNat:=by
      unfold orI
      rw [(LQ k).2.2,hat]
      exact Int.toNat_natCast _
    rw [h1,Nat.testBit_or,Nat.testBit_two_pow]
    have h2:decide ((k % 32).toNat=(n % 32).toNat)=decide (n % 1024=k % 1024):=decide_eq_decide.2 (by omega)
    rw [h2]
  · rename_i hw
    rw [decide_eq_false (by omega)]
    simp
theorem IQ {l:List Int} (h:Fj l=true) (hl:l.length=32) (a m:Int):∀ j:Nat,j≤1024→Nb (Eu l a j) m=(Nb l m && !decide ((m - a) % 1024 < ((j:Nat):Int)))
  | 0,_=>by
    rw [decide_eq_false (by omega)]
    simp [Eu]
  | j+1,hj=>by
    rw [Eu,PA (Hd h a j) (by rw [FK,hl]),IQ h hl a m j (by omega),Bool.and_assoc]
    congr 1
    by_cases h1:(m - a) % 1024 < ((j:Nat):Int)
    · rw [decide_eq_true h1,decide_eq_true (show (m - a) % 1024 < (((j+1:Nat)):Int) by omega)];rfl
    · by_cases h2:m % 1024=(a+((j:Nat):Int)) % 1024
      · rw [decide_eq_true h2,decide_eq_true (show (m - a) % 1024 < (((j+1:Nat)):Int) by omega),Bool.not_true,Bool.and_false]
      · rw [decide_eq_false h1,decide_eq_false h2,decide_eq_false (show ¬ (m - a) % 1024 < (((j+1:Nat)):Int) by omega)];rfl
theorem Nf {l r:List Int} (h1:Fj l=true) (h2:Fj r=true) (hl:l.length=32) (hr:r.length=32) (h:∀ m:Int,0≤m→m < 1024→Nb l m=Nb r m):l=r:=by
  refine List.ext_getElem (by omega) fun i hi hi2=>?_
  have e1:∀ (x:List Int),x.length=32→∀ q:Nat,q < 32→atW x (32*(i:Int)+(q:Int))=x.getD i 0:=fun x hx q hq=>by
    unfold atW
    congr 1
    omega
  have e2:l.getD i 0=l[i]:=by simp [List.getD_eq_getElem?_getD,List.getElem?_eq_getElem hi]
  have e3:r.getD i 0=r[i]:=by simp [List.getD_eq_getElem?_getD,List.getElem?_eq_getElem hi2]
  have b1:=Ha h1 i
  have b2:=Ha h2 i
  rw [← e2,← e3]
  have:(l.getD i 0).toNat=(r.getD i 0).toNat:=by
    refine Nat.eq_of_testBit_eq fun q=>?_
    by_cases hq:q < 32
    · have h3:=h (32*(i:Int)+(q:Int)) (by omega) (by omega)
      rw [GW h1,GW h2,e1 l hl q hq,e1 r hr q hq] at h3
      rwa [show ((32*(i:Int)+(q:Int)) % 32).toNat=q by omega] at h3
    · have hp:(2:Nat) ^ 32≤2 ^ q:=Nat.pow_le_pow_right (by decide) (by omega)
      have hp2:(2:Nat) ^ 32=4294967296:=by decide
      rw [Nat.testBit_lt_two_pow (by omega),Nat.testBit_lt_two_pow (by omega)]
  omega
def PD (l:List Int) (top n:Int):List Int:=OH (Eu l (if top+1 < n - 1023 then n - 1023 else top+1) (n - (if top+1 < n - 1023 then n - 1023 else top+1)).toNat) n
theorem PB {l:List Int} (h:Fj l=true) (hl:l.length=32) {top n:Int} (ht:-1≤top) (m:Int):Nb (PD l top n) m=((Nb l m && !decide ((m - (if top+1 < n - 1023 then n - 1023 else top+1)) % 1024 < n - (if top+1 < n - 1023 then n - 1023 else top+1))) || decide (m % 1024=n % 1024)):=by
  unfold PD
  rw [Mp (Hd h _ _) (by rw [FK,hl]),IQ h hl _ _ _ (by omega)]
  congr 4
  exact propext (by omega)
theorem Ov {l:List Int} {top n a:Int} {j:Nat} (ha:a=if top+1 < n - 1023 then n - 1023 else top+1) (h1:a+((j:Nat):Int)≤n∨j=0) (h2:n≤a+((j:Nat):Int)):OH (Eu l a j) n=PD l top n:=by
  subst ha
  obtain rfl:j=(n - (if top+1 < n - 1023 then n - 1023 else top+1)).toNat:=by omega
  rfl
theorem HA {l:List Int} (h:Fj l=true) (hl:l.length=32) {top n:Int} {j:Nat} (ht:-1≤top) (hj:j≤1024) (hn:top+((j:Nat):Int)≤n∨j=0) (he:n < top+1+((j:Nat):Int)∨j=1024):OH (Eu l (top+1) j) n=PD l top n:=by
  refine Nf (Nw (Hd h _ _) _) (Nw (Hd h _ _) _) (by rw [JM,FK,hl]) (by rw [PD,JM,FK,hl]) fun m h0 h1=>?_
  rw [PB h hl ht,Mp (Hd h _ _) (by rw [FK,hl]),IQ h hl _ _ _ hj]
  by_cases hm:m % 1024=n % 1024
  · rw [decide_eq_true hm,Bool.or_true,Bool.or_true]
  · congr 3
    exact decide_eq_decide.2 (by omega)
end win
end Go.Proofs.YtacoceibbheccaaGreat.K
