/- Plain laws on numbers as bytes: no program here. Plain laws on the sum: no program here. -/
import Derived.Test.YtmajfklnagdlpaaGreatDoorG1Bs
import Derived.Lib.EndianBits
set_option linter.unusedVariables false
set_option linter.unusedSimpArgs false
namespace Go.Proofs.YtmajfklnagdlpaaGreatDoor
def be :Nat→Nat→List UInt8
  |0,_=>[]
  |k+1,x=>UInt8.ofNat (x/256^k)::be k x
def q0x (l:List UInt8):Nat:=l.foldl (fun a b=>a*256+b.toNat) 0
theorem q0G (k x:Nat):(be k x).length=k:=by
  induction k with
  |zero=>rfl
  |succ k ih=>simp[be,ih]
theorem z2v (l:List UInt8): ∀a,l.foldl (fun a b=>a*256+b.toNat) a=a*256^l.length+q0x l:=by
  induction l with
  |nil=>intro a;simp[q0x]
  | cons b l ih=>
    intro a
    have h2:q0x (b::l)=(0*256+b.toNat)*256^l.length+q0x l:=by
      unfold q0x;rw[List.foldl_cons];exact ih _
    rw[List.foldl_cons,ih,h2,List.length_cons,Nat.pow_succ,Nat.add_mul,Nat.zero_mul,Nat.zero_add,Nat.mul_assoc,Nat.mul_comm 256,Nat.add_assoc]
theorem q6z (b:UInt8) (l:List UInt8):q0x (b::l)=b.toNat*256^l.length+q0x l:=by
  unfold q0x
  rw[List.foldl_cons,z2v]
  simp[q0x]
theorem z4p (l:List UInt8) (b:UInt8):q0x (l++[b])=q0x l*256+b.toNat:=by
  unfold q0x;rw[List.foldl_append];rfl
theorem q1q (l:List UInt8):q0x l<256^l.length:=by
  induction l with
  |nil=>simp[q0x]
  | cons b l ih=>
    rw[q6z,List.length_cons,Nat.pow_succ]
    have:=b.toNat_lt
    have h:b.toNat*256^l.length≤255*256^l.length:=Nat.mul_le_mul_right _ (by omega)
    omega
theorem q4Q (k x:Nat):q0x (be k x)=x % 256^k:=by
  induction k with
  |zero=>simp[be,q0x,Nat.mod_one]
  | succ k ih=>
    rw[be,q6z,q0G,ih,Nat.pow_succ,Nat.mod_mul]
    simp only[UInt8.toNat_ofNat']
    rw[Nat.mul_comm (256^k),Nat.add_comm]
theorem q8f (l:List UInt8):be l.length (q0x l)=l:=by
  induction l with
  |nil=>rfl
  | cons b l ih=>
    have h:=q1q l
    have hp:0<256^l.length:=Nat.pow_pos (by decide)
    rw[List.length_cons,be,q6z]
    have e1:(b.toNat*256^l.length+q0x l)/256^l.length=b.toNat:=by
      rw[Nat.add_comm,Nat.add_mul_div_right _ _ hp,Nat.div_eq_of_lt h];omega
    have e2 : ∀k,k≤l.length→be k (b.toNat*256^l.length+q0x l)=be k (q0x l):=by
      intro k
      induction k with
      |zero=>intro _;rfl
      | succ k ih2=>
        intro hk
        rw[be,be,ih2 (by omega)]
        congr 1
        have e3:256^l.length=256^k*(256*256^(l.length-k-1)):=by
          rw[←Nat.mul_assoc,←Nat.pow_succ,←Nat.pow_add];congr 1;omega
        have hk0:0<256^k:=Nat.pow_pos (by decide)
        have e4:(b.toNat*256^l.length+q0x l)/256^k=b.toNat*256^(l.length-k-1)*256+q0x l/256^k:=by
          rw [e3,show b.toNat*(256^k*(256*256^(l.length-k-1)))+q0x l=q0x l+256^k*(b.toNat*256^(l.length-k-1)*256) from by
            rw[Nat.add_comm];congr 1
            rw[Nat.mul_left_comm,Nat.mul_comm 256 (256^_),←Nat.mul_assoc b.toNat],
            Nat.add_mul_div_left _ _ hk0,Nat.add_comm]
        rw[e4]
        apply UInt8.toNat_inj.1
        simp only[UInt8.toNat_ofNat']
        omega
    rw[e1,e2 _ (Nat.le_refl _),ih]
    congr 1
    apply UInt8.toNat_inj.1
    simp
theorem z7x (n:Nat) (L:List Value) (z v:Value):(List.replicate (n+1) z++L).set n v=List.replicate n z++v::L:=by
  rw[List.replicate_succ',List.append_assoc,List.set_append]
  simp
theorem z6U (X k:Nat):((X:Int)/2^(8*k) % 256)=((UInt8.ofNat (X/256^k)).toNat:Int):=by
  have:(2:Nat)^(8*k)=256^k:=by rw[Nat.pow_mul]
  rw[UInt8.toNat_ofNat']
  rw[←this]
  simp
theorem z0z (Z:Int) (b:UInt8) (h0:0≤Z) (h1:Z<72057594037927936):bits .or .u64 (Z*256) (IntKind.u64.wrap (b.toNat:Int))=Z*256+(b.toNat:Int):=by
  have hb:=b.toNat_lt
  have hw:IntKind.u64.wrap (b.toNat:Int)=(b.toNat:Int):=by rw[Go.IntKind.wrap_u64];omega
  rw[hw]
  exact bits_join .u64 64 (by decide) wraps_u64 8 _ _ (by omega) (by omega) (by omega) (by omega) (by omega) (by omega)
end Go.Proofs.YtmajfklnagdlpaaGreatDoor
namespace Go.Proofs.YtmajfklnagdlpaaGreatDoor
def crcPoly :BitVec 32:=0xedb88320#32
def z1G (s:BitVec 32):BitVec 32:=(s>>>1)^^^(crcPoly&&& -(s&&&1#32))
def q6I :Nat→BitVec 32→BitVec 32
  |0,s=>s
  |k+1,s=>z1G (q6I k s)
def q3X (s:BitVec 32) (c:UInt8):BitVec 32:=q6I 8 (s^^^BitVec.ofNat 32 c.toNat)
def q1Y (l:List UInt8):BitVec 32:= ~~~(l.foldl q3X (~~~0#32))
theorem q3L (s:BitVec 32):BitVec.ofInt 32 (s.toNat:Int)=s:=by
  rw[BitVec.ofInt_natCast];simp
theorem z4h (s:BitVec 32):IntKind.u32.wrap (s.toNat:Int)=(s.toNat:Int):=by
  have:=s.isLt
  rw[IntKind.wrap_u32];omega
theorem q4T (s t:BitVec 32):bits .xor .u32 (s.toNat:Int) (t.toNat:Int)=((s^^^t).toNat:Int):=by
  show IntKind.u32.wrap ((BitVec.ofInt 32 (s.toNat:Int)^^^BitVec.ofInt 32 (t.toNat:Int)).toNat:Int)=_
  rw[q3L,q3L,z4h]
theorem q6J (s t:BitVec 32):bits .and .u32 (s.toNat:Int) (t.toNat:Int)=((s&&&t).toNat:Int):=by
  show IntKind.u32.wrap ((BitVec.ofInt 32 (s.toNat:Int)&&&BitVec.ofInt 32 (t.toNat:Int)).toNat:Int)=_
  rw[q3L,q3L,z4h]
theorem z9U (s:BitVec 32):((s.toNat:Nat):Int)/(2:Int)=((s>>>1).toNat:Int):=by
  rw[BitVec.toNat_ushiftRight,Nat.shiftRight_eq_div_pow]
  simp
theorem z8n (s:BitVec 32): -(s.toNat:Int) % 4294967296=((-s).toNat:Int):=by
  have:=s.isLt
  rw[BitVec.toNat_neg]
  omega
theorem z8j (s:BitVec 32):bits .xor .u32 IntKind.u32.max (s.toNat:Int)=((~~~s).toNat:Int):=by
  have h:IntKind.u32.max=((BitVec.allOnes 32).toNat:Int):=by decide
  rw[h,q4T]
  congr 2
theorem z7I (s:BitVec 32):bits .xor .u32 ((s.toNat:Int)/2) (bits .and .u32 3988292384 (-bits .and .u32 (s.toNat:Int) 1 % 4294967296))=((z1G s).toNat:Int):=by
  have h1:(1:Int)=((1#32).toNat:Int):=rfl
  have h2:(3988292384:Int)=(crcPoly.toNat:Int):=rfl
  rw[h1,q6J,z8n,h2,q6J,z9U,q4T]
  rfl
theorem z7P (c:UInt8):((BitVec.ofNat 32 c.toNat).toNat:Int)=(c.toNat:Int):=by
  have:=c.toNat_lt
  rw[BitVec.toNat_ofNat];omega
end Go.Proofs.YtmajfklnagdlpaaGreatDoor
