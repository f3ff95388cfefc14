import Derived.Test.YtacoceibbheccaaGreatHash
import Derived.Test.YtacoceibbheccaaGreatList
namespace Go.Proofs.YtacoceibbheccaaGreat.K
set_option linter.unusedSimpArgs false
set_option linter.unusedVariables false
section nz
variable {key head b x : List UInt8} {i n : Int} {k : Nat}
def qY (key head:List UInt8) (i:Int):List UInt8:=bif decide (0≤i) && decide (i≤6) && decide ((head.length:Int)≤100) then pQ key (pB (115 :: head) i 4) else []
theorem sb (h:i < 0∨6 < i∨100 < (head.length:Int)):qY key head i=[]:=by
  unfold qY
  have:(decide (0≤i) && decide (i≤6) && decide ((head.length:Int)≤100))=false:=by
    simp only [Bool.and_eq_false_iff,decide_eq_false_iff_not];omega
  rw [this,cond_false]
theorem sa (h0:0≤i) (h1:i≤6) (h2:(head.length:Int)≤100) (hb:x=115 :: head):qY key head i=pQ key (pB x i 4):=by
  unfold qY
  rw [decide_eq_true h0,decide_eq_true h1,decide_eq_true h2,hb]
  rfl
theorem tP (key head:List UInt8) (i:Int):(qY key head i).length≤32∧(i < 0∨6 < i∨100 < (head.length:Int)∨1048576 < (key.length:Int)∨(qY key head i).length=32):=by
  by_cases h:i < 0∨6 < i∨100 < (head.length:Int)
  · rw [sb h];exact ⟨Nat.zero_le _,by omega⟩
  · rw [sa (by omega) (by omega) (by omega) rfl]
    have h1:=rJ key (pB (115 :: head) i 4)
    have h2:=qe (115 :: head) i 4
    simp only [List.length_cons] at h2
    omega
def pT (key head:List UInt8):Nat→List UInt8
  | 0=>[]
  | k+1=>pT key head k++qY key head ((k:Nat):Int)
theorem th (h1:(key.length:Int)≤1048576) (h2:(head.length:Int)≤100):∀ k,k≤7→(pT key head k).length=32*k
  | 0,_=>rfl
  | k+1,h=>by
    have h3:=tP key head ((k:Nat):Int)
    rw [pT,List.length_append,th h1 h2 k (by omega)]
    omega
theorem uz (h1:(key.length:Int)≤1048576) (h2:(head.length:Int)≤100) (k:Nat):7 < k∨(pT key head k).length=32*k:=by
  by_cases h:k≤7
  · exact .inr (th h1 h2 k h)
  · exact .inl (by omega)
theorem vn (h1:(key.length:Int)≤1048576) (h2:(head.length:Int)≤100):∀ (j k m:Nat),k+j≤7→m≤32*k→(pT key head (k+j)).take m=(pT key head k).take m
  | 0,k,m,_,_=>rfl
  | j+1,k,m,h,hm=>by
    rw [← Nat.add_assoc,pT,List.take_append_of_le_length (by rw [th h1 h2 _ (by omega)];omega)]
    exact vn h1 h2 j k m (by omega) hm
def nz (key head:List UInt8) (n:Int):List UInt8:=bif decide (0≤n) && decide (n≤200) && decide ((head.length:Int)≤100) && decide ((key.length:Int)≤1048576) then (pT key head 7).take n.toNat else []
theorem qF (h:n < 0∨200 < n∨100 < (head.length:Int)∨1048576 < (key.length:Int)):nz key head n=[]:=by
  unfold nz
  have:(decide (0≤n) && decide (n≤200) && decide ((head.length:Int)≤100) && decide ((key.length:Int)≤1048576))=false:=by
    simp only [Bool.and_eq_false_iff,decide_eq_false_iff_not];omega
  rw [this,cond_false]
theorem rb (h0:0≤n) (h1:n≤200) (h2:(head.length:Int)≤100) (h3:(key.length:Int)≤1048576) (hk:n≤32*(k:Int)) (hk2:32*(k:Int) < n+32):nz key head n=(pT key head k).take n.toNat:=by
  unfold nz
  rw [decide_eq_true h0,decide_eq_true h1,decide_eq_true h2,decide_eq_true h3]
  have:=vn h3 h2 (7 - k) k n.toNat (by omega) (by omega)
  rw [show k+(7 - k)=7 by omega] at this
  exact this
theorem qK (key head:List UInt8) (n:Int):(nz key head n).length≤200∧(n < 0∨200 < n∨100 < (head.length:Int)∨1048576 < (key.length:Int)∨(nz key head n).length=n.toNat):=by
  by_cases h:n < 0∨200 < n∨100 < (head.length:Int)∨1048576 < (key.length:Int)
  · rw [qF h];exact ⟨Nat.zero_le _,by omega⟩
  · have hl:=th (key:=key) (head:=head) (by omega) (by omega) 7 (Nat.le_refl _)
    have:(nz key head n).length=n.toNat:=by
      unfold nz
      rw [decide_eq_true (show 0≤n by omega),decide_eq_true (show n≤200 by omega),decide_eq_true (show (head.length:Int)≤100 by omega),decide_eq_true (show (key.length:Int)≤1048576 by omega)]
      show ((pT key head 7).take n.toNat).length=n.toNat
      rw [List.length_take,hl];omega
    omega
def qJ (b s:List UInt8):List UInt8:=List.zipWith (fun x y=>x^^^y) b s
theorem vj {b s:List UInt8} (h:k < b.length) (hs:k < s.length):qJ (b.take k) (s.take k)++[b.getD k 0^^^s.getD k 0]=qJ (b.take (k+1)) (s.take (k+1)):=by
  have h1:b.getD k 0=b[k]:=by simp [List.getD_eq_getElem?_getD,List.getElem?_eq_getElem h]
  have h2:s.getD k 0=s[k]:=by simp [List.getD_eq_getElem?_getD,List.getElem?_eq_getElem hs]
  rw [List.take_succ_eq_append_getElem h,List.take_succ_eq_append_getElem hs,h1,h2]
  unfold qJ
  rw [List.zipWith_append (by simp only [List.length_take];omega)]
  rfl
theorem xq {b s:List UInt8} (h:k < b.length) (hs:k < s.length):qJ (b.take k) (s.take k)++[s.getD k 0^^^b.getD k 0]=qJ (b.take (k+1)) (s.take (k+1)):=by
  rw [← vj h hs,UInt8.xor_comm]
theorem xS (b s:List UInt8) (k:Nat):(qJ (b.take k) (s.take k)).length≤k:=by
  unfold qJ
  rw [List.length_zipWith,List.length_take]
  omega
def ri (key head b:List UInt8):List UInt8:=bif decide ((b.length:Int)≤200) && decide ((head.length:Int)≤100) && decide ((key.length:Int)≤1048576) then qJ b (nz key head (b.length:Int)) else []
theorem ss (h:200 < (b.length:Int)∨100 < (head.length:Int)∨1048576 < (key.length:Int)):ri key head b=[]:=by
  unfold ri
  have:(decide ((b.length:Int)≤200) && decide ((head.length:Int)≤100) && decide ((key.length:Int)≤1048576))=false:=by
    simp only [Bool.and_eq_false_iff,decide_eq_false_iff_not];omega
  rw [this,cond_false]
theorem AD (h1:(b.length:Int)≤200) (h2:(head.length:Int)≤100) (h3:(key.length:Int)≤1048576):ri key head b=qJ b (nz key head (b.length:Int)):=by
  unfold ri
  rw [decide_eq_true h1,decide_eq_true h2,decide_eq_true h3]
  rfl
theorem te (h1:(b.length:Int)≤200) (h2:(head.length:Int)≤100) (h3:(key.length:Int)≤1048576) (hk:b.length≤k):ri key head b=qJ (b.take k) ((nz key head (b.length:Int)).take k):=by
  have:=qK key head (b.length:Int)
  rw [AD h1 h2 h3,List.take_of_length_le hk,List.take_of_length_le (by omega)]
theorem tn (key head b:List UInt8):(ri key head b).length≤b.length∧(200 < (b.length:Int)∨100 < (head.length:Int)∨1048576 < (key.length:Int)∨(ri key head b).length=b.length):=by
  by_cases h:200 < (b.length:Int)∨100 < (head.length:Int)∨1048576 < (key.length:Int)
  · rw [ss h];exact ⟨Nat.zero_le _,by omega⟩
  · have hs:=qK key head (b.length:Int)
    rw [AD (by omega) (by omega) (by omega)]
    unfold qJ
    rw [List.length_zipWith]
    omega
end nz
section head
def nI (role:Int) (sn:List UInt8) (epoch seq:Int):List UInt8:=if (role=0∨role=1)∧(sn.length:Int)=12∧(0≤epoch∧epoch≤4294967295)∧(0≤seq∧seq≤281474976710655) then by8 role :: (sn++(qg epoch 4 4++qg seq 6 6)) else []
variable {role epoch seq : Int} {sn x : List UInt8}
theorem qn (h:(¬ role=0∧¬ role=1)∨¬ (sn.length:Int)=12∨epoch < 0∨4294967295 < epoch∨seq < 0∨281474976710655 < seq):nI role sn epoch seq=[]:=by
  unfold nI
  rw [if_neg (by omega)]
theorem qm (h1:role=0∨role=1) (h2:(sn.length:Int)=12) (h3:0≤epoch∧epoch≤4294967295) (h4:0≤seq∧seq≤281474976710655) (hx:x=by8 role :: (sn++(qg epoch 4 4++qg seq 6 6))):nI role sn epoch seq=x:=by
  unfold nI
  rw [if_pos ⟨h1,h2,h3,h4⟩,hx]
theorem qb (role:Int) (sn:List UInt8) (epoch seq:Int):(nI role sn epoch seq).length=0∨(nI role sn epoch seq).length=23:=by
  unfold nI
  split
  · rename_i h
    right
    simp only [List.length_cons,List.length_append,ru]
    omega
  · exact .inl rfl
theorem vx (v n:Int):(pB [] v n).length≤6:=by simpa using qe [] v n
theorem rm (n:Nat) (h:n≤31):0 < 1*(2:Int) ^ n∧1*(2:Int) ^ n < 4294967296:=by
  have h2:(2:Nat) ^ n≤2 ^ 31:=Nat.pow_le_pow_right (by decide) h
  have h3:(2:Nat) ^ 31=2147483648:=by decide
  have h4:0 < (2:Nat) ^ n:=Nat.pow_pos (by decide)
  have h5:1*(2:Int) ^ n=((2 ^ n:Nat):Int):=by rw [Int.one_mul];simp
  omega
theorem tY (b:List UInt8) (x:Int):pB b x 6=b++qg x 6 6:=rfl
end head
section tag
def si (key b:List UInt8):List UInt8:=(pQ key b).take 16
theorem wD {key b:List UInt8} (h:(pQ key b).length=0):si key b=[]:=by
  unfold si
  rw [List.length_eq_zero_iff.1 h]
  rfl
theorem rL (key b:List UInt8):(si key b).length=0∨(si key b).length=16:=by
  have:=rJ key b
  unfold si
  rw [List.length_take]
  omega
def orX (a b:List UInt8):Nat→Int
  | 0=>0
  | k+1=>orI (orX a b k) (((a.getD k 0^^^b.getD k 0).toNat:Nat):Int)
theorem wl (a b:List UInt8):∀ k,∃ m:Nat,orX a b k=(m:Int)∧m < 256
  | 0=>⟨0,rfl,by decide⟩
  | k+1=>by
    obtain ⟨m,h1,h2⟩:=wl a b k
    refine ⟨m ||| (a.getD k 0^^^b.getD k 0).toNat,?_,Nat.or_lt_two_pow (n:=8) h2 (UInt8.toNat_lt _)⟩
    rw [orX,h1]
    rfl
theorem BW (a b:List UInt8) (k:Nat):0≤orX a b k∧orX a b k < 256:=by
  obtain ⟨m,h1,h2⟩:=wl a b k
  omega
theorem wK (a b:List UInt8):∀ k,orX a b k=0↔∀ j,j < k→a.getD j 0=b.getD j 0
  | 0=>⟨fun _ j h=>by omega,fun _=>rfl⟩
  | k+1=>by
    obtain ⟨m,h1,h2⟩:=wl a b k
    have h3:orX a b (k+1)=((m ||| (a.getD k 0^^^b.getD k 0).toNat:Nat):Int):=by rw [orX,h1];rfl
    have h4:orX a b (k+1)=0↔orX a b k=0∧a.getD k 0=b.getD k 0:=by
      rw [h3,h1]
      constructor
      · intro h
        have h5:m ||| (a.getD k 0^^^b.getD k 0).toNat=0:=by omega
        have h6:=Nat.or_eq_zero_iff.1 h5
        refine ⟨by omega,?_⟩
        have h7:a.getD k 0^^^b.getD k 0=0:=UInt8.toNat_inj.1 (by simpa using h6.2)
        exact UInt8.xor_eq_zero_iff.1 h7
      · rintro ⟨h5,h6⟩
        rw [h6,UInt8.xor_self]
        simp
        omega
    rw [h4,wK a b k]
    constructor
    · rintro ⟨h5,h6⟩ j hj
      rcases Nat.lt_succ_iff_lt_or_eq.1 hj with h|rfl
      · exact h5 j h
      · exact h6
    · intro h
      exact ⟨fun j hj=>h j (by omega),h k (by omega)⟩
def qh (a b:List UInt8):Int:=bif decide ((a.length:Int)=(b.length:Int)) then orX a b a.length else -1
theorem tJ {a b:List UInt8} (h:¬ (a.length:Int)=(b.length:Int)):qh a b = -1:=by unfold qh;rw [decide_eq_false h,cond_false]
theorem tI {a b:List UInt8} {k:Nat} (h:(a.length:Int)=(b.length:Int)) (hk:a.length≤k) (hk2:k≤a.length):qh a b=orX a b k:=by
  obtain rfl:k=a.length:=by omega
  unfold qh;rw [decide_eq_true h,cond_true]
theorem sW (a b:List UInt8):qh a b=0↔a=b:=by
  by_cases h:(a.length:Int)=(b.length:Int)
  · rw [tI h (Nat.le_refl _) (Nat.le_refl _),wK]
    constructor
    · intro hj
      refine List.ext_getElem (by omega) fun j h1 h2=>?_
      have:=hj j h1
      simpa [List.getD_eq_getElem?_getD,List.getElem?_eq_getElem h1,List.getElem?_eq_getElem h2] using this
    · rintro rfl j _;rfl
  · rw [tJ h]
    constructor
    · intro h1;omega
    · rintro rfl;exact absurd rfl h
end tag
theorem yr {α:Type} {f:α→Value} {w:World} {lo c k:Nat} {E:TypeId} {a:Option Addr} {x:List α} (h:w.ownsRow lo E 1 (.slice a x.length c) x.length (x.map f)) (hk:k≤x.length) :
    w.ownsRow lo E 1 (.slice (tX a c 0 1) (x.take k).length (c - 0)) (x.take k).length ((x.take k).map f):=by
  have h1:=zK h hk
  rw [CM,Nat.sub_zero,List.length_take,Nat.min_eq_left hk,List.map_take]
  rwa [Nat.mul_one] at h1
section win
def sZ (a b:Int):Int:=((a.toNat^^^(a.toNat &&& b.toNat):Nat):Int)
theorem tR {a b:Int} (h1:a < 4294967296):0≤sZ a b∧sZ a b < 4294967296:=b32 (Nat.xor_lt_two_pow (Be h1) (Nat.lt_of_le_of_lt Nat.and_le_left (Be h1)))
theorem zO {a b:Int} (h0:0≤a) (h1:a < 9223372036854775808) (h2:0≤b) (h3:b < 9223372036854775808):bits .andNot .i64 a b=sZ a b:=by
  have hb:bits .andNot .i64 a b=IntKind.i64.wrap (((BitVec.ofInt 64 a &&& ~~~ BitVec.ofInt 64 b).toNat:Nat):Int):=rfl
  have e1:(BitVec.ofInt 64 a &&& ~~~ BitVec.ofInt 64 b)=BitVec.ofInt 64 a^^^(BitVec.ofInt 64 a &&& BitVec.ofInt 64 b):=by
    refine BitVec.eq_of_getLsbD_eq fun i hi=>?_
    simp only [BitVec.getLsbD_and,BitVec.getLsbD_not,BitVec.getLsbD_xor,hi,decide_true,Bool.true_and]
    cases (BitVec.ofInt 64 a).getLsbD i <;> cases (BitVec.ofInt 64 b).getLsbD i <;> rfl
  rw [hb,e1,BitVec.toNat_xor,BitVec.toNat_and,qr h0 h1,qr h2 h3,uH (Nat.xor_lt_two_pow (qH h1) (Nat.lt_of_le_of_lt Nat.and_le_left (qH h1)))]
  rfl
theorem yb {P:Program} {ops:Array Oper} {Q:Exit→Act→World→Prop} {n:Nat} {e:Env} {w:World} {o:Oper} {rest:List Oper} (a b:Int) (hw:pH n ops o e) {d:Nat} (hd:o.dst=some d) (hdn:Nat.blt d n=true)
    (hr:(execOp (ev e) o).run P w=.ok (.value (.int .i64 (bits .andNot .i64 a b))) w) (h0:0≤a) (h1:a < 9223372036854775808) (h2:0≤b) (h3:b < 9223372036854775808)
    (hk:WL P ops Q rest n (upd e d (.int .i64 (sZ a b))) w):WL P ops Q (o :: rest) n e w:=oQ hw hd hdn hr (by rw [zO h0 h1 h2 h3];exact hk)
def yp (k:Int):Int:=1*(2:Int) ^ (k % 32).toNat
theorem wI (k:Int):0 < yp k∧yp k < 4294967296∧(yp k).toNat=2 ^ (k % 32).toNat:=by
  have h1:(k % 32).toNat≤31:=by omega
  have h2:(2:Nat) ^ (k % 32).toNat≤2 ^ 31:=Nat.pow_le_pow_right (by decide) h1
  have h3:(2:Nat) ^ 31=2147483648:=by decide
  have h4:0 < (2:Nat) ^ (k % 32).toNat:=Nat.pow_pos (by decide)
  have h5:yp k=((2 ^ (k % 32).toNat:Nat):Int):=by unfold yp;rw [Int.one_mul];simp
  omega
def atW (l:List Int) (k:Int):Int:=l.getD ((k % 1024) / 32).toNat 0
def Bt (l:List Int) (k:Int):List Int:=l.set ((k % 1024) / 32).toNat (sZ (atW l k) (yp k))
def zu (l:List Int) (k:Int):List Int:=l.set ((k % 1024) / 32).toNat (orI (atW l k) (yp k))
theorem Dj (l:List Int) (k:Int):l.set ((k % 1024) / 32).toNat (sZ (l.getD ((k % 1024) / 32).toNat 0) (1*(2:Int) ^ ((k % 1024) % 32).toNat))=Bt l k:=by
  unfold Bt atW yp
  rw [show k % 1024 % 32=k % 32 by omega]
theorem Ax (l:List Int) (k:Int):l.set ((k % 1024) / 32).toNat (orI (l.getD ((k % 1024) / 32).toNat 0) (1*(2:Int) ^ ((k % 1024) % 32).toNat))=zu l k:=by
  unfold zu atW yp
  rw [show k % 1024 % 32=k % 32 by omega]
def pC (l:List Int) (a:Int):Nat→List Int
  | 0=>l
  | j+1=>Bt (pC l a j) (a+((j:Nat):Int))
theorem xh {l:List Int} (h:qf l=true) (i:Nat) {v:Int} (h0:0≤v) (h1:v < 4294967296):qf (l.set i v)=true:=by
  unfold qf at h ⊢
  rw [List.all_eq_true] at h ⊢
  intro x hx
  rcases List.mem_or_eq_of_mem_set hx with hx|rfl
  · exact h x hx
  · simp;omega
theorem ze {l:List Int} (h:qf l=true) (k:Int):0≤atW l k∧atW l k < 4294967296:=rV h _
theorem AJ {l:List Int} (h:qf l=true) (k:Int):qf (Bt l k)=true:=xh h _ (tR (ze h k).2).1 (tR (ze h k).2).2
theorem wE {l:List Int} (h:qf l=true) (k:Int):qf (zu l k)=true:=xh h _ (uD (ze h k).2 (wI k).2.1).1 (uD (ze h k).2 (wI k).2.1).2
theorem rK {l:List Int} (h:qf l=true) (a:Int):∀ j,qf (pC l a j)=true
  | 0=>h
  | j+1=>AJ (rK h a j) _
theorem qo (l:List Int) (a:Int):∀ j,(pC l a j).length=l.length
  | 0=>rfl
  | j+1=>by rw [pC,Bt,List.length_set,qo l a j]
theorem ti (l:List Int) (k:Int):(zu l k).length=l.length:=by rw [zu,List.length_set]
def ux (l:List Int) (n:Int):Bool:=decide ((atW l n / (2:Int) ^ (n % 32).toNat) % 2=1)
theorem rS {l:List Int} (h:qf l=true) (n:Int):ux l n=(atW l n).toNat.testBit (n % 32).toNat:=by
  have hb:=ze h n
  unfold ux
  rw [Nat.testBit_eq_decide_div_mod_eq]
  have h1:atW l n=(((atW l n).toNat:Nat):Int):=by omega
  have h2:(2:Int) ^ (n % 32).toNat=((2 ^ (n % 32).toNat:Nat):Int):=by simp
  have h3:(atW l n / (2:Int) ^ (n % 32).toNat) % 2=(((atW l n).toNat / 2 ^ (n % 32).toNat % 2:Nat):Int):=by
    rw [h2];conv=>lhs;rw [h1]
    simp
  rw [h3]
  have h4:(((atW l n).toNat / 2 ^ (n % 32).toNat % 2:Nat):Int)=1↔(atW l n).toNat / 2 ^ (n % 32).toNat % 2=1:=by omega
  exact decide_eq_decide.2 h4
theorem zd (l:List Int) (k n v:Int) (hl:l.length=32):atW (l.set ((k % 1024) / 32).toNat v) n=if (k % 1024) / 32=(n % 1024) / 32 then v else atW l n:=by
  unfold atW
  rw [List.getD_eq_getElem?_getD,List.getElem?_set]
  split
  · rename_i h
    rw [if_pos (by omega),if_pos (by omega)]
    rfl
  · rename_i h
    rw [if_neg (by omega),List.getD_eq_getElem?_getD]
theorem Ak {l:List Int} (h:qf l=true) (hl:l.length=32) (k n:Int):ux (Bt l k) n=(ux l n && !decide (n % 1024=k % 1024)):=by
  rw [rS (AJ h k),rS h]
  unfold Bt
  rw [zd l k n _ hl]
  split
  · rename_i hw
    have hat:atW l k=atW l n:=by unfold atW;rw [hw]
    have h1:(sZ (atW l k) (yp k)).toNat=(atW l n).toNat^^^((atW l n).toNat &&& 2 ^ (k % 32).toNat):=by
      unfold sZ
      rw [(wI k).2.2,hat]
      exact Int.toNat_natCast _
    rw [h1,Nat.testBit_xor,Nat.testBit_and,Nat.testBit_two_pow]
    have h2:decide ((k % 32).toNat=(n % 32).toNat)=decide (n % 1024=k % 1024):=decide_eq_decide.2 (by omega)
    rw [h2]
    cases (atW l n).toNat.testBit (n % 32).toNat <;> cases decide (n % 1024=k % 1024) <;> rfl
  · rename_i hw
    rw [decide_eq_false (by omega)]
    simp
theorem xg {l:List Int} (h:qf l=true) (hl:l.length=32) (k n:Int):ux (zu l k) n=(ux l n || decide (n % 1024=k % 1024)):=by
  rw [rS (wE h k),rS h]
  unfold zu
  rw [zd l k n _ hl]
  split
  · rename_i hw
    have hat:atW l k=atW l n:=by unfold atW;rw [hw]
    have h1:(orI (atW l k) (yp k)).toNat=(atW l n).toNat ||| 2 ^ (k % 32).toNat:=by
      unfold orI
      rw [(wI k).2.2,hat]
      exact Int.toNat_natCast _
    rw [h1,Nat.testBit_or,Nat.testBit_two_pow]
    have h2:decide ((k % 32).toNat=(n % 32).toNat)=decide (n % 1024=k % 1024):=decide_eq_decide.2 (by omega)
    rw [h2]
  · rename_i hw
    rw [decide_eq_false (by omega)]
    simp
theorem tQ {l:List Int} (h:qf l=true) (hl:l.length=32) (a m:Int):∀ j:Nat,j≤1024→ux (pC l a j) m=(ux l m && !decide ((m - a) % 1024 < ((j:Nat):Int)))
  | 0,_=>by
    rw [decide_eq_false (by omega)]
    simp [pC]
  | j+1,hj=>by
    rw [pC,Ak (rK h a j) (by rw [qo,hl]),tQ h hl a m j (by omega),Bool.and_assoc]
    congr 1
    by_cases h1:(m - a) % 1024 < ((j:Nat):Int)
    · rw [decide_eq_true h1,decide_eq_true (show (m - a) % 1024 < (((j+1:Nat)):Int) by omega)];rfl
    · by_cases h2:m % 1024=(a+((j:Nat):Int)) % 1024
      · rw [decide_eq_true h2,decide_eq_true (show (m - a) % 1024 < (((j+1:Nat)):Int) by omega),Bool.not_true,Bool.and_false]
      · rw [decide_eq_false h1,decide_eq_false h2,decide_eq_false (show ¬ (m - a) % 1024 < (((j+1:Nat)):Int) by omega)];rfl
theorem xT {l r:List Int} (h1:qf l=true) (h2:qf r=true) (hl:l.length=32) (hr:r.length=32) (h:∀ m:Int,0≤m→m < 1024→ux l m=ux r m):l=r:=by
  refine List.ext_getElem (by omega) fun i hi hi2=>?_
  have e1:∀ (x:List Int),x.length=32→∀ q:Nat,q < 32→atW x (32*(i:Int)+(q:Int))=x.getD i 0:=fun x hx q hq=>by
    unfold atW
    congr 1
    omega
  have e2:l.getD i 0=l[i]:=by simp [List.getD_eq_getElem?_getD,List.getElem?_eq_getElem hi]
  have e3:r.getD i 0=r[i]:=by simp [List.getD_eq_getElem?_getD,List.getElem?_eq_getElem hi2]
  have b1:=rV h1 i
  have b2:=rV h2 i
  rw [← e2,← e3]
  have:(l.getD i 0).toNat=(r.getD i 0).toNat:=by
    refine Nat.eq_of_testBit_eq fun q=>?_
    by_cases hq:q < 32
    · have h3:=h (32*(i:Int)+(q:Int)) (by omega) (by omega)
      rw [rS h1,rS h2,e1 l hl q hq,e1 r hr q hq] at h3
      rwa [show ((32*(i:Int)+(q:Int)) % 32).toNat=q by omega] at h3
    · have hp:(2:Nat) ^ 32≤2 ^ q:=Nat.pow_le_pow_right (by decide) (by omega)
      have hp2:(2:Nat) ^ 32=4294967296:=by decide
      rw [Nat.testBit_lt_two_pow (by omega),Nat.testBit_lt_two_pow (by omega)]
  omega
def wd (l:List Int) (top n:Int):List Int:=zu (pC l (if top+1 < n - 1023 then n - 1023 else top+1) (n - (if top+1 < n - 1023 then n - 1023 else top+1)).toNat) n
theorem tw {l:List Int} (h:qf l=true) (hl:l.length=32) {top n:Int} (ht:-1≤top) (m:Int):ux (wd l top n) m=((ux l m && !decide ((m - (if top+1 < n - 1023 then n - 1023 else top+1)) % 1024 < n - (if top+1 < n - 1023 then n - 1023 else top+1))) || decide (m % 1024=n % 1024)):=by
  unfold wd
  rw [xg (rK h _ _) (by rw [qo,hl]),tQ h hl _ _ _ (by omega)]
  congr 4
  exact propext (by omega)
theorem zh {l:List Int} {top n a:Int} {j:Nat} (ha:a=if top+1 < n - 1023 then n - 1023 else top+1) (h1:a+((j:Nat):Int)≤n∨j=0) (h2:n≤a+((j:Nat):Int)):zu (pC l a j) n=wd l top n:=by
  subst ha
  obtain rfl:j=(n - (if top+1 < n - 1023 then n - 1023 else top+1)).toNat:=by omega
  rfl
theorem sF {l:List Int} (h:qf l=true) (hl:l.length=32) {top n:Int} {j:Nat} (ht:-1≤top) (hj:j≤1024) (hn:top+((j:Nat):Int)≤n∨j=0) (he:n < top+1+((j:Nat):Int)∨j=1024):zu (pC l (top+1) j) n=wd l top n:=by
  refine xT (wE (rK h _ _) _) (wE (rK h _ _) _) (by rw [ti,qo,hl]) (by rw [wd,ti,qo,hl]) fun m h0 h1=>?_
  rw [tw h hl ht,xg (rK h _ _) (by rw [qo,hl]),tQ h hl _ _ _ hj]
  by_cases hm:m % 1024=n % 1024
  · rw [decide_eq_true hm,Bool.or_true,Bool.or_true]
  · congr 3
    exact decide_eq_decide.2 (by omega)
end win
end Go.Proofs.YtacoceibbheccaaGreat.K
