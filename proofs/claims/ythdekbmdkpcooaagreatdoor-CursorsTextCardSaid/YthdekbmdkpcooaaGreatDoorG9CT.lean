/- Plain laws. -/
import Derived.Test.YthdekbmdkpcooaaGreatDoorG4CT
import Derived.Lib.ItoaNum
import Derived.Shelf.Strconv.Itoa3
import Derived.Shelf.Strings.Search1
import Derived.Test.YthdekbmdkpcooaaGreatDoorG7CT
import Derived.Test.YthdekbmdkpcooaaGreatDoorG8CT
import Derived.Lib.AppendIntMem
import Derived.Lib.OthersKept
set_option linter.unusedVariables false
set_option linter.unusedSimpArgs false
set_option maxRecDepth 100000
set_option maxHeartbeats 6400000
namespace Go.Proofs.YthdekbmdkpcooaaGreatDoor
section
open Go.RowKit
theorem z7N {n:Nat} (h:n<10):(UInt8.ofNat (48+n)).toNat=48+n:=by
 have:=q4L n
 rwa [Nat.mod_eq_of_lt h] at this
theorem q5p {n:Nat} (h:n<10):q0U (UInt8.ofNat (48+n))=true:=by
 unfold q0U;rw[z7N h,Bool.and_eq_true,decide_eq_true_iff,decide_eq_true_iff];omega
theorem z0y (n:Nat):(Lib.decDigits n).all q0U=true:=by
 induction n using Nat.strongRecOn with
 | _ n ih=>
  by_cases h:n<10
  ·rw[Lib.decDigits_one h,List.all_cons,q5p h];rfl
  ·rw[Lib.decDigits,dif_neg h,List.all_append,ih (n/10) (by omega),List.all_cons,q5p (Nat.mod_lt _ (by decide))];rfl
theorem z8N (n:Nat):Lib.decDigits n≠[]:=fun e=>by
 have h:=Lib.decDigits_length n;rw[e] at h;have:=Lib.nDigits_pos n;simp at h;omega
theorem z5C (n:Nat):unD (Lib.decDigits n)=n:=by
 induction n using Nat.strongRecOn with
 | _ n ih=>
  by_cases h:n<10
  ·rw[Lib.decDigits_one h,q6N,z7N h];simp[unD]
  ·rw[Lib.decDigits,dif_neg h,q9E,ih (n/10) (by omega),z7N (Nat.mod_lt _ (by decide))];omega
theorem z8m {l:List UInt8} (h:l.all q0U=true) (h0:l≠[]) (hz:l.getD 0 0≠48):1≤unD l:=by
 cases l with
 |nil=>exact absurd rfl h0
 | cons b t=>
  rw[q6N];have hb:q0U b=true:=by rw[List.all_cons,Bool.and_eq_true] at h;exact h.1
  unfold q0U at hb;rw[Bool.and_eq_true,decide_eq_true_iff,decide_eq_true_iff] at hb;have hn:b.toNat≠48:=fun e=>hz (by show b=48;exact UInt8.toNat_inj.1 e)
  have hp:1≤10^t.length:=Nat.one_le_pow _ _ (by decide);have:1*1≤(b.toNat-48)*10^t.length:=Nat.mul_le_mul (by omega) hp;omega
theorem z8c (l :List UInt8):l.all q0U=true→l≠[]→(l.length=1∨l.getD 0 0≠48)→Lib.decDigits (unD l)=l:=by
 have H : ∀ n,∀l:List UInt8,l.length=n→l.all q0U=true→l≠[]→(l.length=1∨l.getD 0 0≠48)→Lib.decDigits (unD l)=l:=fun n=>by
  induction n with
  |zero=>intro l hl _ h0;exact absurd (List.length_eq_zero_iff.1 hl) h0
  | succ n ih=>
   intro l hl ha h0 hz;rcases List.eq_nil_or_concat l with e|⟨t,b,e⟩
   ·exact absurd e h0
   ·rw [List.concat_eq_append] at e
    subst e;rw[List.length_append,List.length_singleton] at hl;rw[List.all_append,Bool.and_eq_true] at ha;have hb:q0U b=true:=by have:=ha.2;rw[List.all_cons,Bool.and_eq_true] at this;exact this.1
    unfold q0U at hb;rw[Bool.and_eq_true,decide_eq_true_iff,decide_eq_true_iff] at hb;have hbb:UInt8.ofNat (48+(b.toNat-48))=b:=by
     rw[show 48+(b.toNat-48)=b.toNat by omega];exact UInt8.ofNat_toNat
    rw[q9E];by_cases ht:t=[]
    ·subst ht
     rw[show unD []*10+(b.toNat-48)=b.toNat-48 by simp[unD],Lib.decDigits_one (by omega),hbb];rfl
    ·have hz2:t.getD 0 0≠48:=by
      rcases hz with hz|hz
      ·rw[List.length_append,List.length_singleton] at hz
       exact absurd (List.length_eq_zero_iff.1 (by omega)) ht
      ·cases t with
       |nil=>exact absurd rfl ht
       |cons a t=>exact hz
     have h1:=z8m ha.1 ht hz2;rw[Lib.decDigits,dif_neg (by omega),show (unD t*10+(b.toNat-48))/10=unD t by omega,ih t (by omega) ha.1 ht (.inr hz2),show (unD t*10+(b.toNat-48)) % 10=b.toNat-48 by omega,hbb]
 exact H l.length l rfl
theorem q3T {n:Nat} (h:n<10000000000):(Lib.decDigits n).length≤10:=by
 have H : ∀k n:Nat,n<10^(k+1)→(Lib.decDigits n).length≤k+1:=fun k=>by
  induction k with
  |zero=>intro n hn;rw[Lib.decDigits_one (by simpa using hn)];simp
  | succ k ih=>
   intro n hn;by_cases h:n<10
   ·rw[Lib.decDigits_one h];simp
   ·rw[Lib.decDigits,dif_neg h,List.length_append,List.length_singleton]
    have:=ih (n/10) (by rw[Nat.pow_succ] at hn;omega);omega
 exact H 9 n (by simpa using h)
theorem z7m {n :Nat} (h:(Lib.decDigits n).getD 0 0=48):(Lib.decDigits n).length=1:=by
 by_cases hn:n<10
 ·rw[Lib.decDigits_one hn];rfl
 ·have h1 : (Lib.decDigits n).length=1∨n=0:=by
   have H : ∀n:Nat,(Lib.decDigits n).getD 0 0=48→n=0:=fun n=>by
    induction n using Nat.strongRecOn with
    | _ n ih=>
     intro hh;by_cases h:n<10
     ·rw[Lib.decDigits_one h] at hh
      have:=congrArg UInt8.toNat (show UInt8.ofNat (48+n)=48 from hh);rw[z7N h] at this
      simpa using this
     ·have hne:=z8N (n/10)
      rw[Lib.decDigits,dif_neg h] at hh
      cases hd:Lib.decDigits (n/10) with
      |nil=>exact absurd hd hne
      | cons a t=>
       rw[hd] at hh;have:=ih (n/10) (by omega) (by rw[hd];exact hh);omega
   exact .inr (H n h)
  omega
structure Cur where
 st:List UInt8
 nx:Int
 dn:Bool
deriving DecidableEq
abbrev q6R :Cur:=⟨[],0,false⟩
def q3F (c:Cur):Bool:=q1G c.st&&decide (c.nx≤1073741824)&&(decide (0≤c.nx)||(c.dn&&decide (c.nx= -1)))
def q7b (d:Bool):UInt8:=if d then 98 else 102
def q4C (c:Cur):List UInt8:=q7b c.dn::(Lib.decDigits (c.nx+1).toNat++58::c.st)
theorem q3S {c:Cur} (h:q3F c=true):q1G c.st=true∧ -1≤c.nx∧c.nx≤1073741824:=by
 unfold q3F at h;simp only[Bool.and_eq_true,Bool.or_eq_true,decide_eq_true_iff] at h;refine ⟨h.1.1,?_,h.1.2⟩;rcases h.2 with h|h<;>omega
def z2A (l:List UInt8):Option Nat:=if l=[]∨10<l.length∨(1<l.length∧l.getD 0 0=48)∨l.all q0U=false then none else some (unD l)
def q3W (s:List UInt8):Option Cur:=
 if 58∉s then none else match s.takeWhile (· !=58) with
 |[]=>none
 | h::ds=>if h≠102∧h≠98 then none else match z2A ds with
  |none=>none
  |some n=>if q3F ⟨(s.dropWhile (· !=58)).drop 1,(n:Int)-1,h==98⟩=true then some ⟨(s.dropWhile (· !=58)).drop 1,(n:Int)-1,h==98⟩ else none
def y0D (s:List UInt8):List UInt8:=((s.drop 1).takeWhile q0U).take 11
def z6Y (s:List UInt8):Cur:=⟨s.drop (1+(y0D s).length+1),(unD (y0D s):Int)-1,s.head? ==some 98⟩
def q7i (s:List UInt8):Option Cur:=if q3F (z6Y s)=true∧q4C (z6Y s)=s then some (z6Y s) else none
theorem z6V {p:UInt8→Bool} {l:List UInt8} (h:l.all p=true) {x:UInt8} (hx:p x=false) (r:List UInt8):(l++x::r).takeWhile p=l∧(l++x::r).dropWhile p=x::r:=by
 induction l with
 |nil=>simp[hx]
 | cons a l ih=>
  rw[List.all_cons,Bool.and_eq_true] at h;obtain ⟨h1,h2⟩:=ih h.2
  constructor
  ·rw[List.cons_append,List.takeWhile_cons,h.1];simp only[if_true];rw[h1]
  ·rw[List.cons_append,List.dropWhile_cons,h.1];simp only[if_true];exact h2
theorem z0C (s:List UInt8) (c:Cur):q7i s=some c↔q3F c=true∧q4C c=s:=by
 unfold q7i
 constructor
 ·intro h
  split at h
  ·rename_i hh;cases h;exact hh
  ·cases h
 ·rintro ⟨h1,h2⟩
  have hb:=q3S h1;have e:z6Y s=c:=by
   have hd:y0D s=Lib.decDigits (c.nx+1).toNat:=by
    unfold y0D;rw[←h2];unfold q4C;rw[show∀(a:UInt8) l,(a::l).drop 1=l from fun _ _=>rfl,(z6V (z0y _) (by decide) _).1];exact List.take_of_length_le (Nat.le_trans (q3T (by omega)) (by decide))
   unfold z6Y;rw[hd,z5C];obtain ⟨st,nx,dn⟩:=c;simp only at hb h2 hd⊢;have e1:s.drop (1+(Lib.decDigits (nx+1).toNat).length+1)=st:=by
    rw[←h2];unfold q4C;simp only;rw[show 1+(Lib.decDigits (nx+1).toNat).length+1=((Lib.decDigits (nx+1).toNat).length+1)+1 by omega,List.drop_succ_cons,List.drop_append,List.drop_eq_nil_of_le (by omega)];simp
   have e2:(((nx+1).toNat:Nat):Int)-1=nx:=by omega
   have e3:(s.head? ==some 98)=dn:=by rw[←h2];unfold q4C q7b;cases dn<;>rfl
   rw[e1,e2,e3]
  rw[e,if_pos ⟨h1,h2⟩]
theorem q9W {l:List UInt8} {n:Nat} (h:z2A l=some n):l≠[]∧l.length≤10∧l.all q0U=true∧n=unD l∧Lib.decDigits n=l:=by
 unfold z2A at h
 split at h
 ·cases h
 ·rename_i hh
  cases h;have h1:l≠[]:=fun e=>hh (.inl e)
  have h2:l.all q0U=true:=by cases hd:l.all q0U;exact absurd (.inr (.inr (.inr hd))) hh;rfl
  have h3:l.length=1∨l.getD 0 0≠48:=by
   by_cases e:l.getD 0 0=48
   ·left
    have:¬1<l.length:=fun e2=>hh (.inr (.inr (.inl ⟨e2,e⟩)))
    have:=List.length_pos_iff.2 h1;omega
   ·exact .inr e
  exact ⟨h1,by have:¬10<l.length:=fun e=>hh (.inr (.inl e));omega,h2,rfl,z8c l h2 h1 h3⟩
theorem z6i {n:Nat} (h:n<10000000000):z2A (Lib.decDigits n)=some n:=by
 unfold z2A;rw[if_neg,z5C];rintro (e|e|⟨e,e2⟩|e)
 ·exact z8N n e
 ·have:=q3T h;omega
 ·have:=z7m e2;omega
 ·rw[z0y] at e;cases e
theorem q9i (s : List UInt8) (c:Cur):q3W s=some c↔q3F c=true∧q4C c=s:=by
 unfold q3W
 constructor
 ·intro h
  split at h
  ·cases h
  ·rename_i hc
   have hm:58∈s:=Decidable.not_not.1 hc
   split at h
   ·cases h
   ·rename_i hd ds htw
    split at h
    ·cases h
    ·rename_i hh
     split at h
     ·cases h
     ·rename_i n hn
      split at h
      ·rename_i hmay
       cases h;refine ⟨hmay,?_⟩;obtain ⟨_,_,_,_,h5⟩:=q9W hn;have h6:s=s.takeWhile (· !=58)++s.dropWhile (· !=58):=(List.takeWhile_append_dropWhile (p:=(· !=58)) (l:=s)).symm;have h7 : ∃r,s.dropWhile (· !=58)=58::r:=by
        have : ∀ l:List UInt8,58∈l→ ∃r,l.dropWhile (· !=58)=58::r:=fun l=>by
         induction l with
         |nil=>intro h;cases h
         | cons a l ih=>
          intro h;by_cases e:a=58
          ·subst e;exact ⟨l,by simp⟩
          ·rcases List.mem_cons.1 h with h|h
           ·exact absurd h.symm e
           ·obtain ⟨r,hr⟩:=ih h
            exact ⟨r,by rw[List.dropWhile_cons];simp[e,hr]⟩
        exact this s hm
       obtain ⟨r,hr⟩:=h7;have e0:q7b (hd==98)=hd:=by
        unfold q7b;by_cases e:hd=98
        ·subst e;rfl
        ·have e2:hd=102:=Decidable.not_not.1 fun e2=>hh ⟨e2,e⟩
         subst e2;rfl
       unfold q4C;simp only;rw[hr,e0,show ((n:Int)-1+1).toNat=n by omega,h5];rw[htw,hr] at h6;exact h6.symm
      ·cases h
 ·rintro ⟨h1,h2⟩
  have hb:=q3S h1;obtain ⟨st,nx,dn⟩:=c;simp only at hb h1 h2;have hall:(q7b dn::Lib.decDigits (nx+1).toNat).all (· !=58)=true:=by
   rw[List.all_cons,Bool.and_eq_true];refine ⟨by cases dn<;>decide,List.all_eq_true.2 fun x hx=>?_⟩;have:=List.all_eq_true.1 (z0y (nx+1).toNat) x hx;simp only[bne_iff_ne,ne_eq];rintro rfl;exact absurd this (by decide)
  have hs:s=(q7b dn::Lib.decDigits (nx+1).toNat)++58::st:=by rw[←h2];unfold q4C;rfl
  obtain ⟨h3,h4⟩:=z6V hall (x:=58) (by decide) st;rw[←hs] at h3 h4;rw[if_neg (by rw[Decidable.not_not,hs];simp),h3,h4];simp only;rw[if_neg (by cases dn<;>simp[q7b]),z6i (by omega)];simp only;have e1:(((nx+1).toNat:Nat):Int)-1=nx:=by omega
  have e2:(q7b dn==98)=dn:=by cases dn<;>rfl
  rw[e1,e2,show (58::st).drop 1=st from rfl,if_pos h1]
theorem z4y (s:List UInt8):q3W s=q7i s:=by
 cases h:q3W s with
 | none=>
  cases h2:q7i s with
  |none=>rfl
  |some c=>rw[(q9i s c).2 ((z0C s c).1 h2)] at h;cases h
 |some c=>exact ((z0C s c).2 ((q9i s c).1 h)).symm
end
end Go.Proofs.YthdekbmdkpcooaaGreatDoor
namespace Go.Proofs
open Go.Shelf
def Tryz.itoa171_ren :Go.Shelf.Ren:=⟨fun|171=>52|243=>97|246=>145|283=>192|284=>193|285=>194|286=>195|129=>231|317=>230|318=>232|319=>233|320=>234|337=>268|338=>269|n=>n,fun|3=>3|9=>9|2=>2|4=>4|171=>280|0=>0|53=>23|37=>154|5=>5|173=>283|212=>319|51=>271|20=>20|213=>320|46=>198|232=>367|233=>368|n=>n,fun|17=>2|18=>3|19=>4|n=>n⟩
theorem Tryz.itoa171 :Go.Proofs.LaysM.n171 Tryz.prog Tryz.itoa171_ren:={
 mixed:=by kernel_rfl
 f129:=Tryz.func231.trans (congrArg some (by kernel_rfl))
 f171:=Tryz.func52.trans (congrArg some (by kernel_rfl))
 f243:=Tryz.func97.trans (congrArg some (by kernel_rfl))
 f246:=Tryz.func145.trans (congrArg some (by kernel_rfl))
 f283:=Tryz.func192.trans (congrArg some (by kernel_rfl))
 f284:=Tryz.func193.trans (congrArg some (by kernel_rfl))
 f285:=Tryz.func194.trans (congrArg some (by kernel_rfl))
 f286:=Tryz.func195.trans (congrArg some (by kernel_rfl))
 f317:=Tryz.func230.trans (congrArg some (by kernel_rfl))
 f318:=Tryz.func232.trans (congrArg some (by kernel_rfl))
 f319:=Tryz.func233.trans (congrArg some (by kernel_rfl))
 f320:=Tryz.func234.trans (congrArg some (by kernel_rfl))
 f337:=Tryz.func268.trans (congrArg some (by kernel_rfl))
 f338:=Tryz.func269.trans (congrArg some (by kernel_rfl))
 t0:=Tryz.underlying0
 a0:=Tryz.isAgg0
 z0:=Tryz.sizeOf0
 v0:=Tryz.zeroValue0
 t2:=Tryz.underlying2
 a2:=Tryz.isAgg2
 z2:=Tryz.sizeOf2
 v2:=Tryz.zeroValue2
 t3:=Tryz.underlying3
 a3:=Tryz.isAgg3
 z3:=Tryz.sizeOf3
 v3:=Tryz.zeroValue3
 t4:=Tryz.underlying4
 a4:=Tryz.isAgg4
 z4:=Tryz.sizeOf4
 v4:=Tryz.zeroValue4
 t5:=Tryz.underlying5
 a5:=Tryz.isAgg5
 z5:=Tryz.sizeOf5
 v5:=Tryz.zeroValue5
 t9:=Tryz.underlying9
 a9:=Tryz.isAgg9
 z9:=Tryz.sizeOf9
 v9:=Tryz.zeroValue9
 t20:=Tryz.underlying20
 a20:=Tryz.isAgg20
 z20:=Tryz.sizeOf20
 v20:=Tryz.zeroValue20
 t37:=Tryz.underlying154
 a37:=Tryz.isAgg154
 z37:=Tryz.sizeOf154
 v37:=Tryz.zeroValue154
 t46:=Tryz.underlying198
 a46:=Tryz.isAgg198
 z46:=Tryz.sizeOf198
 v46:=Tryz.zeroValue198
 t51:=Tryz.underlying271
 a51:=Tryz.isAgg271
 z51:=Tryz.sizeOf271
 v51:=Tryz.zeroValue271
 t53:=Tryz.underlying23
 a53:=Tryz.isAgg23
 z53:=Tryz.sizeOf23
 v53:=Tryz.zeroValue23
 t171:=Tryz.underlying280
 a171:=Tryz.isAgg280
 z171:=Tryz.sizeOf280
 v171:=Tryz.zeroValue280
 t173:=Tryz.underlying283
 a173:=Tryz.isAgg283
 z173:=Tryz.sizeOf283
 v173:=Tryz.zeroValue283
 t212:=Tryz.underlying319
 a212:=Tryz.isAgg319
 z212:=Tryz.sizeOf319
 v212:=Tryz.zeroValue319
 t213:=Tryz.underlying320
 a213:=Tryz.isAgg320
 z213:=Tryz.sizeOf320
 t232:=Tryz.underlying367
 a232:=Tryz.isAgg367
 z232:=Tryz.sizeOf367
 v232:=Tryz.zeroValue367
 t233:=Tryz.underlying368
 a233:=Tryz.isAgg368
 z233:=Tryz.sizeOf368
 v233:=Tryz.zeroValue368
 g17:=by kernel_rfl
 g18:=by kernel_rfl
 g19:=by kernel_rfl
 i0:=by kernel_rfl
 i2:=by kernel_rfl
 i3:=by kernel_rfl
 i4:=by kernel_rfl
 i5:=by kernel_rfl
 i9:=by kernel_rfl
 i20:=by kernel_rfl
 i37:=by kernel_rfl
 i46:=by kernel_rfl
 i51:=by kernel_rfl
 i53:=by kernel_rfl
 i171:=by kernel_rfl
 i173:=by kernel_rfl
 i212:=by kernel_rfl
 i232:=by kernel_rfl
 i233:=by kernel_rfl
 m17:=by kernel_rfl
 m18:=by kernel_rfl
 m19:=by kernel_rfl}
def Tryz.idx217_ren :Go.Shelf.Ren:=⟨fun|217=>196|266=>235|n=>n,fun|9=>9|5=>5|3=>3|n=>n,fun|n=>n⟩
theorem Tryz.idx217 :Go.Proofs.Lays.n217 Tryz.prog Tryz.idx217_ren:={
 mixed:=by kernel_rfl
 f217:=Tryz.func196.trans (congrArg some (by kernel_rfl))
 f266:=Tryz.func235.trans (congrArg some (by kernel_rfl))
 t3:=Tryz.underlying3
 a3:=Tryz.isAgg3
 z3:=Tryz.sizeOf3
 v3:=Tryz.zeroValue3
 t5:=Tryz.underlying5
 a5:=Tryz.isAgg5
 z5:=Tryz.sizeOf5
 v5:=Tryz.zeroValue5
 t9:=Tryz.underlying9
 a9:=Tryz.isAgg9
 z9:=Tryz.sizeOf9
 v9:=Tryz.zeroValue9}
end Go.Proofs
namespace Go.Proofs.YthdekbmdkpcooaaGreatDoor
theorem η9 {p:Prop} (h:p):Go.RowKit.Hid p:=Lib.hid h
section
open Go.RowKit
abbrev z2e (c:Cur):Value:= .agg #[.string ⟨c.st.toArray⟩,.int .i64 c.nx,.bool c.dn]
theorem q4e (st:List UInt8) (nx:Int) (dn:Bool):q3F ⟨st,nx,dn⟩=true↔q1G st=true∧nx≤1073741824∧(0≤nx∨(dn=true∧nx= -1)):=by
 unfold q3F;simp only[Bool.and_eq_true,Bool.or_eq_true,decide_eq_true_iff];exact ⟨fun h=>⟨h.1.1,h.1.2,h.2⟩,fun h=>⟨⟨h.1,h.2.1⟩,h.2.2⟩⟩
theorem q6K (c:Cur) (hs:c.st.length≤9223372036854775807) (w:World):Calls Tryz.prog 51 #[z2e c] w fun e w'=>e= .returned (.int .i64 (if q3F c=true then 0 else 2))∧Ext w w':=by
 obtain ⟨st,nx,dn⟩:=c;simp only at hs;have HN:=η9 (fun W=>q8s st W hs);have hx1:=q0B w (.cells #[.string ⟨st.toArray⟩,.int .i64 nx,.bool dn] 63);have HX:=η9 hx1;have HB:=η9 (Blk.new w 63 #[.string ⟨st.toArray⟩,.int .i64 nx,.bool dn]);obtain ⟨z,hz⟩: ∃z,(if q3F ⟨st,nx,dn⟩=true then (0:Int) else 2)=z:=⟨_,rfl⟩
 have HY:Hid (q1G st=true∧nx≤1073741824∧(0≤nx∨(dn=true∧nx= -1))→z=0):=η9 fun h=>by rw[←hz,if_pos ((q4e st nx dn).2 h)]
 have HNo:Hid (¬(q1G st=true∧nx≤1073741824∧(0≤nx∨(dn=true∧nx= -1)))→z=2):=η9 fun h=>by rw[←hz,if_neg fun e=>h ((q4e st nx dn).1 e)]
 rw[hz];clear hx1 hz;generalize q1G st=sb at*;go_enter Tryz.func51,Tryz.ntmps51
 cases dn
 all_goals
  go_wp2_with fail;refine (HN.out _).mono ?_;rintro e w1 ⟨rfl,hx⟩;have k1:=(HB.out.ext hx).cell 1;have HX1:=η9 (HX.out.trans hx);clear hx HN HB
  cases sb
  all_goals
   go_wp2_with fail
   all_goals
    go_ret;refine ⟨?_,HX1.out⟩
    first
     |rw[HNo.out (by rintro ⟨h1,_,_⟩;simp at h1;done)];rfl
     |rw[HNo.out (by rintro ⟨_,h2,h3⟩;(try simp at h3);omega)];rfl
     |rw[HY.out ⟨by simp,by omega,by simp;omega⟩];rfl
theorem z9c (c:Cur) (hs:c.st.length≤9223372036854775807) (w:World):Calls Tryz.prog 53 #[z2e c] w fun e w'=>e= .returned (.bool (q3F c))∧Ext w w':=by
 obtain ⟨st,nx,dn⟩:=c;simp only at hs;have HN:=η9 (fun W=>z0j st W hs);have hx1:=q0B w (.cells #[.string ⟨st.toArray⟩,.int .i64 nx,.bool dn] 67);have HX:=η9 hx1;have HB:=η9 (Blk.new w 67 #[.string ⟨st.toArray⟩,.int .i64 nx,.bool dn]);obtain ⟨z,hz⟩: ∃z,q3F ⟨st,nx,dn⟩=z:=⟨_,rfl⟩
 have HY:Hid (q1G st=true∧nx≤1073741824∧(0≤nx∨(dn=true∧nx= -1))→z=true):=η9 fun h=>by rw[←hz,(q4e st nx dn).2 h]
 have HNo:Hid (¬(q1G st=true∧nx≤1073741824∧(0≤nx∨(dn=true∧nx= -1)))→z=false):=η9 fun h=>by rw[←hz,Bool.eq_false_iff];exact fun e=>h ((q4e st nx dn).1 e)
 rw[hz];clear hx1 hz;generalize q1G st=sb at*;go_enter Tryz.func53,Tryz.ntmps53;go_wp2_with fail;refine (HN.out _).mono ?_;rintro e w1 ⟨rfl,hx⟩;have k1:=(HB.out.ext hx).cell 1;have k2:=(HB.out.ext hx).cell 2;have HX1:=η9 (HX.out.trans hx);clear hx HN HB
 cases sb
 ·go_wp2_with fail
  go_ret;exact ⟨by rw[HNo.out (fun h=>by cases h.1)];rfl,HX1.out⟩
 by_cases h1:nx≤1073741824
 ·have d1:decide (nx≤(1073741824:Int))=true:=decide_eq_true h1
  by_cases h2:0≤nx
  ·have d2:decide ((0:Int)≤nx)=true:=decide_eq_true h2
   have HY2:=η9 (HY.out ⟨rfl,h1,.inl h2⟩);clear h1 h2;go_wp2_with fail;go_ret;exact ⟨by rw[HY2.out];rfl,HX1.out⟩
  ·have d2:decide ((0:Int)≤nx)=false:=decide_eq_false h2
   cases dn
   ·have HY2:=η9 (HNo.out fun h=>by rcases h.2.2 with h|⟨h,_⟩;exact h2 h;cases h)
    clear h1 h2;go_wp2_with fail;go_ret;exact ⟨by rw[HY2.out];rfl,HX1.out⟩
   ·by_cases h3:nx= -1
    ·have d3:(nx==(-1:Int))=true:=by rw[h3];rfl
     have HY2:=η9 (HY.out ⟨rfl,h1,.inr ⟨rfl,h3⟩⟩);clear h1 h2 h3;go_wp2_with fail;go_ret;exact ⟨by rw[HY2.out];rfl,HX1.out⟩
    ·have d3:(nx==(-1:Int))=false:=by simpa using h3
     have HY2:=η9 (HNo.out fun h=>by rcases h.2.2 with h|⟨_,h⟩;exact h2 h;exact h3 h);clear h1 h2 h3;go_wp2_with fail;go_ret;exact ⟨by rw[HY2.out];rfl,HX1.out⟩
 ·have d1:decide (nx≤(1073741824:Int))=false:=decide_eq_false h1
  have HY2:=η9 (HNo.out fun h=>h1 h.2.1);clear h1;go_wp2_with fail;go_ret;exact ⟨by rw[HY2.out];rfl,HX1.out⟩
theorem z0s {n:Nat} (h:n<10):(([48,49,50,51,52,53,54,55,56,57]:List UInt8).drop n).take 1=[UInt8.ofNat (48+n)]:=by
 have H: ∀i:Fin 10,(([48,49,50,51,52,53,54,55,56,57]:List UInt8).drop i.val).take 1=[UInt8.ofNat (48+i.val)]:=by decide
 exact H ⟨n,h⟩
theorem z0k (n:Nat):n≤1073741825→ ∀w:World,Calls Tryz.prog 54 #[.int .i64 (n:Int)] w fun e w'=>e= .returned (.string ⟨(Lib.decDigits n).toArray⟩)∧Ext w w':=by
 induction n using Nat.strongRecOn with
 | _ n ih=>
  intro hn w;by_cases h:n<10
  ·have d1:decide ((n:Int)<(10:Int))=true:=decide_eq_true (by omega)
   have q1:IntKind.i64.wrap ((n:Int)+1)=(n:Int)+1:=by rw[IntKind.wrap_i64];omega
   have hsl:=z0s h;have HD:Hid (Lib.decDigits n=[UInt8.ofNat (48+n)]):=η9 (Lib.decDigits_one h);have hsr:=q2X (X:=[UInt8.ofNat (48+n)]) [48,49,50,51,52,53,54,55,56,57] (n:Int) ((n:Int)+1) n (n+1) rfl (by omega) (by omega) (by simp;omega) (by rw[List.drop_take,show n+1-n=1 by omega];exact hsl);clear hsl h;generalize UInt8.ofNat (48+n)=B at*;clear ih;go_enter Tryz.func54,Tryz.ntmps54;go_wp2_with fail;go_ret;exact ⟨by rw[HD.out];rfl,Ext.refl _⟩
  ·have d1:decide ((n:Int)<(10:Int))=false:=decide_eq_false (by omega)
   have q1:(n:Int).tdiv 10=((n/10:Nat):Int):=by rw[Int.tdiv_eq_ediv_of_nonneg (by omega)];omega
   have q2:(n:Int).tmod 10=((n % 10:Nat):Int):=by rw[Int.tmod_eq_emod_of_nonneg (by omega)];omega
   have q3:IntKind.i64.wrap ((n/10:Nat):Int)=((n/10:Nat):Int):=by rw[IntKind.wrap_i64];omega
   have HD:Hid (Lib.decDigits n=Lib.decDigits (n/10)++[UInt8.ofNat (48+n % 10)]):=η9 (by rw[Lib.decDigits,dif_neg h]);have HA:=η9 (ih (n/10) (by omega) (by omega));have HB:=η9 (ih (n % 10) (by omega) (by omega));have HE:Hid (Lib.decDigits (n % 10)=[UInt8.ofNat (48+n % 10)]):=η9 (Lib.decDigits_one (Nat.mod_lt _ (by decide)));have hl1:(Lib.decDigits (n/10)).length≤10:=q3T (by omega);have hl2:(Lib.decDigits (n % 10)).length≤10:=q3T (by omega);obtain ⟨a,ha⟩: ∃a:Int,((n/10:Nat):Int)=a:=⟨_,rfl⟩
   obtain ⟨b,hb⟩: ∃b:Int,((n % 10:Nat):Int)=b:=⟨_,rfl⟩
   rw[ha] at q1 q3 HA;rw[hb] at q2 HB;rw[HE.out] at HB hl2;generalize Lib.decDigits (n/10)=A at*;have q4:¬(9223372036854775807<A.length+[UInt8.ofNat (48+n % 10)].length):=by omega
   generalize UInt8.ofNat (48+n % 10)=B at*;clear ih ha hb h hn;go_enter Tryz.func54,Tryz.ntmps54;go_wp2_with fail;refine (HA.out _).mono ?_;rintro e w1 ⟨rfl,hx⟩;have HX1:=η9 hx;clear hx HA;go_wp2_with fail;refine (HB.out _).mono ?_;rintro e w2 ⟨rfl,hx⟩;have HX2:=η9 (HX1.out.trans hx);clear hx HB;go_wp2_with fail;go_ret;exact ⟨by rw[HD.out];rfl,HX2.out⟩
abbrev TabW (w:World):Prop:=Lib.TabIs Tryz.prog w "internal/strconv.uint64pow10" .u64 Lib.pow10Tab
theorem TabW.ext {w w':World} (h:TabW w) (k:Ext w w'):TabW w':=Lib.tabBelow_of_tabIs h w' k
theorem y0P (n:Nat) (hn:n≤1073741825) (w:World) (ht:TabW w):Calls Tryz.prog 52 #[.int .i64 (n:Int)] w fun e w'=>e= .returned (.string ⟨(Lib.decDigits n).toArray⟩)∧Ext w w':=by
 refine (Any.strconv_Itoa Tryz.itoa171 (n:Int) (by omega) (by omega) w ht).mono ?_;rintro e w' ⟨rfl,k,os,rfl⟩;refine ⟨by rw[Lib.itoa_nonneg],?_⟩;exact (Ext.refl _).drewN k|>.trans ⟨rfl,rfl,rfl,by show (w.drewN k).heap.size≤((w.drewN k).heap++os).size;rw[Array.size_append];omega,fun i hi=>Array.getElem?_append_left hi⟩
end
section
open Go.RowKit
def q8X (c:Cur):List UInt8:=if q3F c=true then q4C c else []
theorem q9C {c:Cur} (h:q3F c=true):c.st.length≤32:=by
 have:=(q3S h).1;unfold q1G at this;rw[Bool.and_eq_true,decide_eq_true_iff,decide_eq_true_iff] at this;exact this.2
theorem z8a (c:Cur) (hs:c.st.length≤9223372036854775807) (w:World) (ht:TabW w):Calls Tryz.prog 20 #[z2e c] w fun e w'=>e= .returned (.tuple #[.string ⟨(q8X c).toArray⟩,.int .i64 (if q3F c=true then 0 else 2)])∧Ext w w':=by
 have HC:=η9 (fun W=>q6K c hs W);have hst:=@q9C c;have hbd:=@q3S c;have HP:Hid (q8X c=if q3F c=true then q7b c.dn::(Lib.decDigits (c.nx+1).toNat++58::c.st) else []):=η9 rfl;obtain ⟨st,nx,dn⟩:=c;have hx1:=q0B w (.cells #[.string ⟨st.toArray⟩,.int .i64 nx,.bool dn] 63);have HX:=η9 hx1;have HB:=η9 (Blk.new w 63 #[.string ⟨st.toArray⟩,.int .i64 nx,.bool dn]);have HT:=η9 ht;simp only at hs hst hbd;obtain ⟨m,hm⟩: ∃m,q3F ⟨st,nx,dn⟩=m:=⟨_,rfl⟩
 rw[hm] at HC HP hst hbd⊢;clear hx1 ht hm;generalize q8X ⟨st,nx,dn⟩=R at*;go_enter Tryz.func20,Tryz.ntmps20;go_wp2_with fail;refine (HC.out _).mono ?_;rintro e w1 ⟨rfl,hx⟩;have hbk:=HB.out.ext hx;have k0:=hbk.cell 0;have k1:=hbk.cell 1;have k2:=hbk.cell 2;have HX1:=η9 (HX.out.trans hx);clear hx HC HB hbk
 cases m with
 | false=>
  have HR:Hid (R=[]):=HP.out;go_wp2_with fail;go_ret2;exact ⟨by rw[HR.out];rfl,HX1.out⟩
 | true=>
  have hst':=hst rfl;obtain ⟨_,hb1,hb2⟩:=hbd rfl;obtain ⟨n,hn⟩: ∃n:Nat,nx+1=(n:Int):=⟨(nx+1).toNat,by omega⟩
  have q1:IntKind.i64.wrap (nx+1)=(n:Int):=by rw[IntKind.wrap_i64];omega
  have HI:=η9 (fun x:ExtOf w1=>y0P n (by omega) x.w' (HT.out.ext (HX1.out.trans x.h)));have hD:(Lib.decDigits n).length≤10:=q3T (by omega);have HR:Hid (R=q7b dn::(Lib.decDigits n++58::st)):=η9 (by have:=HP.out;rw[if_pos rfl] at this;refine this.trans ?_;show q7b dn::(Lib.decDigits (nx+1).toNat++58::st)=_;rw[show (nx+1).toNat=n by omega]);generalize Lib.decDigits n=D at*;have u0:=q0F k0;have u1:=q0F k1;have q2:¬(9223372036854775807<[q7b dn].length+D.length):=by simp;omega
  have q3:¬(9223372036854775807<([q7b dn]++D).length+[(58:UInt8)].length):=by simp;omega
  have q4:¬(9223372036854775807<(([q7b dn]++D)++[(58:UInt8)]).length+st.length):=by simp;omega
  clear hst hbd hb1 hb2 HP hn k0 k1
  cases dn
  all_goals
   simp only[q7b,Bool.false_eq_true,if_false,if_true] at q2 q3 q4 HR;go_wp2_with fail;refine q0E (by kernel_rfl) (by kernel_rfl) ?_
   repeat (go_big_quiet_step (fail))
   go_big_quiet_step (exact Calls.quiet_ext (HI.out _))
   repeat (go_big_quiet_step (fail))
   refine wpQuiet_nil ?_;intro w3 hw;have HX3:=η9 (HX1.out.trans hw);clear hw;go_wp2_with fail;go_ret2;exact ⟨by rw[HR.out];simp[q2i],HX3.out⟩
end
section
open Go.RowKit
def z6Z (l:List UInt8):Int:=match z2A l with|some n=>(n:Int)|none=> -1
theorem q3d {l:List UInt8} (h:l=[]∨10<l.length∨(1<l.length∧l.getD 0 0=48)∨l.all q0U=false):z6Z l= -1:=by
 unfold z6Z z2A;rw[if_pos h]
theorem z2l {l:List UInt8} (h:¬(l=[]∨10<l.length∨(1<l.length∧l.getD 0 0=48)∨l.all q0U=false)):z6Z l=(unD l:Int):=by
 unfold z6Z z2A;rw[if_neg h]
theorem z6k (s:List UInt8) (hs:s.length≤9223372036854775807) (w:World):Calls Tryz.prog 56 #[.string ⟨s.toArray⟩] w fun e w'=>e= .returned (.int .i64 (z6Z s))∧Ext w w':=by
 by_cases h0:s=[]
 ·have HN:=η9 (q3d (l:=s) (.inl h0))
  have d0:(s==[])=true:=by rw[h0];rfl
  clear h0;go_enter Tryz.func56,Tryz.ntmps56;go_wp2_with fail;go_ret;exact ⟨by rw[HN.out];rfl,Ext.refl _⟩
 have d0:(s==[])=false:=by simpa using h0
 by_cases h1:10<s.length
 ·have HN:=η9 (q3d (l:=s) (.inr (.inl h1)))
  have d1:decide ((10:Int)<(s.length:Int))=true:=decide_eq_true (by omega);clear h0 h1;go_enter Tryz.func56,Tryz.ntmps56;go_wp2_with fail;go_ret;exact ⟨by rw[HN.out];rfl,Ext.refl _⟩
 have d1:decide ((10:Int)<(s.length:Int))=false:=decide_eq_false (by omega);have hp:0<s.length:=List.length_pos_iff.2 h0;obtain ⟨c,hc⟩: ∃c,s[0]? =some c:=⟨_,List.getElem?_eq_getElem hp⟩
 have hcd:s.getD 0 0=c:=by rw[List.getD_eq_getElem?_getD,hc];rfl
 have hc0:=q9j hc;have hz:(1<s.length∧c=48)∨(1<s.length∧c≠48)∨¬1<s.length:=by
  by_cases a:1<s.length
  ·by_cases b:c=48
   ·exact .inl ⟨a,b⟩
   ·exact .inr (.inl ⟨a,b⟩)
  ·exact .inr (.inr a)
 have HL0:=η9 h0;have HL1:Hid (s.length≤10):=η9 (by omega);have HCD:=η9 hcd;clear hc hcd h0 h1;obtain ⟨q,hq⟩: ∃q,w.heap.size=q:=⟨_,rfl⟩
 rcases hz with ⟨hz1,hz2⟩|hz
 ·have HN:=η9 (q3d (l:=s) (.inr (.inr (.inl ⟨hz1,by rw[HCD.out];exact hz2⟩))))
  have d2:decide ((1:Int)<(s.length:Int))=true:=decide_eq_true (by omega);have d3:((c.toNat:Int)==48)=true:=by rw[hz2];rfl
  clear hz1 hz2;go_enter Tryz.func56,Tryz.ntmps56;go_wp2_with fail;go_ret;exact ⟨by rw[HN.out];rfl,Ext.refl _⟩
 have HZ:Hid (¬(1<s.length∧s.getD 0 0=48)):=η9 fun h=>by
  rcases hz with ⟨_,h2⟩|h2
  ·exact h2 (by rw[←HCD.out];exact h.2)
  ·exact h2 h.1
 have hk0:(w.iter ⟨s.toArray⟩ 0).heap[w.heap.size]? =some (.stringIter ⟨s.toArray⟩ 0):=World.iter_heap w ⟨s.toArray⟩ 0;have hb0:Ext w (w.iter ⟨s.toArray⟩ 0):=(Ext.refl w).alloc _;have HK0:=η9 hk0;have HB0:=η9 hb0;clear hk0 hb0 hq q;rcases hz with ⟨hz1,hz2⟩|hz1
 ·have d2 :decide ((1:Int)<(s.length:Int))=true:=decide_eq_true (by omega)
  have d3:((c.toNat:Int)==48)=false:=beq_eq_false_iff_ne.2 fun h=>hz2 (UInt8.toNat_inj.1 (by show c.toNat=48;omega))
  clear hz1 hz2;go_enter Tryz.func56,Tryz.ntmps56;go_wp2_with fail
  go_loopw [3] (fun v W=> ∃pos m:Nat,v= .int .i64 (m:Int)∧pos≤s.length∧W.heap[w.heap.size]? =some (.stringIter ⟨s.toArray⟩ pos)∧Hid ((s.take pos).all q0U=true∧m=unD (s.take pos))∧Ext w W) (fun _ W=>s.length-W.iterPos w.heap.size)
  case atStart=>exact ⟨0,0,rfl,Nat.zero_le _,HK0.out,η9 ⟨rfl,rfl⟩,HB0.out⟩
  case round=>
   obtain ⟨pos,m,rfl,hps,hk,HM,hx⟩:=hrel;have HX:=η9 hx;have hmu:wr.iterPos w.heap.size=pos:=by simp[World.iterPos,hk]
   by_cases hlt:pos<s.length
   ·obtain ⟨u,hu⟩: ∃u,s[pos]? =some u:=⟨_,List.getElem?_eq_getElem hlt⟩
    have hp:pos<(⟨s.toArray⟩:ByteArray).size:=by simpa [ByteArray.size] using hlt
    have hu1:=q9j hu hp;have HU:=η9 hu;have HMu:=η9 hmu;by_cases ha:u.toNat<128
    ·have hnext: ∀ty,(Instr.next (.pointer (some ⟨w.heap.size,0,none⟩)) true ty).run Tryz.prog wr=_:=fun ty=>Lib.run_next_ascii_at wr w.heap.size ⟨s.toArray⟩ pos ty hk hp (by rw[hu1];exact ha)
     rw[hu1] at hnext;have hk1:=Lib.iterAt_heap wr w.heap.size ⟨s.toArray⟩ pos (pos+1) hk;have hx1:Ext w (wr.iterAt w.heap.size ⟨s.toArray⟩ (pos+1)):=Lib.below_iterAt hx (Nat.le_refl _) ⟨s.toArray⟩ (pos+1);generalize wr.iterAt w.heap.size ⟨s.toArray⟩ (pos+1)=W1 at hnext hk1 hx1;have HK1:=η9 hk1;have HX1:=η9 hx1;have hmb:m≤9999999999:=by
      have:=z0D _ HM.out.1;rw[←HM.out.2] at this;have h2:(s.take pos).length≤10:=by rw[List.length_take];have:=HL1.out;omega
      have h3:10^(s.take pos).length≤10^10:=Nat.pow_le_pow_right (by decide) h2;have h4:(10:Nat)^10=10000000000:=by decide
      omega
     obtain ⟨mi,hmi⟩: ∃mi:Int,(m:Int)=mi:=⟨_,rfl⟩
     obtain ⟨ui,hui⟩: ∃ui:Int,(u.toNat:Int)=ui:=⟨_,rfl⟩
     rw[hui] at hnext;rw[hmi];have hm0:0≤mi∧mi≤9999999999:=by omega
     have hu0:0≤ui∧ui<128:=by omega
     have HMi:=η9 hmi;have HUi:=η9 hui;clear hk hx hk1 hx1 hmu hu1 hu hmb hmi hui ha;obtain ⟨hm0,hm1⟩:=hm0;obtain ⟨hu0,hu2⟩:=hu0;by_cases hlo:ui<48
     ·have HN:=η9 (q3d (l:=s) (.inr (.inr (.inr (q4W HU.out (by rw[Bool.eq_false_iff];intro h;have:=(q1H u).1 h;have:=HUi.out;omega))))))
      have d4:decide (ui<(48:Int))=true:=decide_eq_true hlo;clear hlo;go_wp2_with fail;go_ret;exact ⟨by rw[HN.out];rfl,HX1.out⟩
     have d4:decide (ui<(48:Int))=false:=decide_eq_false hlo;by_cases hhi:57<ui
     ·have HN:=η9 (q3d (l:=s) (.inr (.inr (.inr (q4W HU.out (by rw[Bool.eq_false_iff];intro h;have:=(q1H u).1 h;have:=HUi.out;omega))))))
      have d5:decide ((57:Int)<ui)=true:=decide_eq_true hhi;clear hlo hhi;go_wp2_with fail;go_ret;exact ⟨by rw[HN.out];rfl,HX1.out⟩
     have d5:decide ((57:Int)<ui)=false:=decide_eq_false hhi;have q1:IntKind.i64.wrap (10*mi)=10*mi:=by rw[IntKind.wrap_i64];omega
     have q2:IntKind.i32.wrap (ui-48)=ui-48:=by rw[IntKind.wrap_i32];omega
     have q3:IntKind.i64.wrap (ui-48)=ui-48:=by rw[IntKind.wrap_i64];omega
     have q4:IntKind.i64.wrap (10*mi+(ui-48))=10*mi+(ui-48):=by rw[IntKind.wrap_i64];omega
     have HM2:Hid ((s.take (pos+1)).all q0U=true∧unD (s.take (pos+1))=unD (s.take pos)*10+(u.toNat-48)):=η9 ⟨q3R HU.out HM.out.1 ((q1H u).2 (by have:=HUi.out;omega)),q2o HU.out⟩;have HR:Hid (10*mi+(ui-48)=((m*10+(u.toNat-48):Nat):Int)):=η9 (by have:=HMi.out;have:=HUi.out;omega);clear hlo hhi;go_wp2_with fail
     go_roundw
     case rel=>exact ⟨pos+1,m*10+(u.toNat-48),by rw[HR.out],by omega,HK1.out,η9 ⟨HM2.out.1,by rw[HM2.out.2,←HM.out.2]⟩,HX1.out⟩
     case measure=>
      have hmu2:W1.iterPos w.heap.size=pos+1:=by simp[World.iterPos,HK1.out]
      rw[HMu.out,hmu2];omega
    ·have hnext: ∀ty,(Instr.next (.pointer (some ⟨w.heap.size,0,none⟩)) true ty).run Tryz.prog wr=_:=fun ty=>Lib.run_next_any_at wr w.heap.size ⟨s.toArray⟩ pos ty hk hp
     have hd:=decode_high ⟨s.toArray⟩ pos hp (by rw[hu1];omega);have hd2:=decode_le ⟨s.toArray⟩ pos;have hx1:Ext w (wr.iterAt w.heap.size ⟨s.toArray⟩ (pos+(Utf8.decode ⟨s.toArray⟩ pos).2)):=Lib.below_iterAt hx (Nat.le_refl _) ⟨s.toArray⟩ _;obtain ⟨ri,hri⟩: ∃ri:Int,((Utf8.decode ⟨s.toArray⟩ pos).1:Int)=ri:=⟨_,rfl⟩
     rw[hri] at hnext;have hr0:128≤ri:=by omega
     generalize wr.iterAt w.heap.size ⟨s.toArray⟩ (pos+(Utf8.decode ⟨s.toArray⟩ pos).2)=W1 at hnext hx1;have HX1:=η9 hx1;have HN:=η9 (q3d (l:=s) (.inr (.inr (.inr (q4W HU.out (by rw[Bool.eq_false_iff];intro h;have:=(q1H u).1 h;omega))))));have d4:decide (ri<(48:Int))=false:=decide_eq_false (by omega);have d5:decide ((57:Int)<ri)=true:=decide_eq_true (by omega);clear hk hx hx1 hmu hu1 hu hd hd2 hri ha hr0;go_wp2_with fail;go_ret;exact ⟨by rw[HN.out];rfl,HX1.out⟩
   ·obtain rfl:pos=s.length:=by omega
    have hnext: ∀ty,(Instr.next (.pointer (some ⟨w.heap.size,0,none⟩)) true ty).run Tryz.prog wr=_:=fun ty=>Lib.run_next_end_at wr w.heap.size ⟨s.toArray⟩ s.length ty hk (by simp[ByteArray.size])
    have hta:s.take s.length=s:=List.take_length;have HM2:=HM.out;rw[hta] at HM2
    have HN:Hid (z6Z s=(m:Int)):=η9 (by
     rw[HM2.2];refine z2l ?_;rintro (h|h|h|h)
     ·exact HL0.out h
     ·have:=HL1.out;omega
     ·exact HZ.out h
     ·rw[HM2.1] at h;cases h)
    clear hta HM2 hk hmu hx;go_wp2_with fail;go_ret;exact ⟨by rw[HN.out];rfl,HX.out⟩
 ·have d2 :decide ((1:Int)<(s.length:Int))=false:=decide_eq_false (by omega)
  clear hz1;go_enter Tryz.func56,Tryz.ntmps56;go_wp2_with fail
  go_loopw [3] (fun v W=> ∃pos m:Nat,v= .int .i64 (m:Int)∧pos≤s.length∧W.heap[w.heap.size]? =some (.stringIter ⟨s.toArray⟩ pos)∧Hid ((s.take pos).all q0U=true∧m=unD (s.take pos))∧Ext w W) (fun _ W=>s.length-W.iterPos w.heap.size)
  case atStart=>exact ⟨0,0,rfl,Nat.zero_le _,HK0.out,η9 ⟨rfl,rfl⟩,HB0.out⟩
  case round=>
   obtain ⟨pos,m,rfl,hps,hk,HM,hx⟩:=hrel;have HX:=η9 hx;have hmu:wr.iterPos w.heap.size=pos:=by simp[World.iterPos,hk]
   by_cases hlt:pos<s.length
   ·obtain ⟨u,hu⟩: ∃u,s[pos]? =some u:=⟨_,List.getElem?_eq_getElem hlt⟩
    have hp:pos<(⟨s.toArray⟩:ByteArray).size:=by simpa [ByteArray.size] using hlt
    have hu1:=q9j hu hp;have HU:=η9 hu;have HMu:=η9 hmu;by_cases ha:u.toNat<128
    ·have hnext: ∀ty,(Instr.next (.pointer (some ⟨w.heap.size,0,none⟩)) true ty).run Tryz.prog wr=_:=fun ty=>Lib.run_next_ascii_at wr w.heap.size ⟨s.toArray⟩ pos ty hk hp (by rw[hu1];exact ha)
     rw[hu1] at hnext;have hk1:=Lib.iterAt_heap wr w.heap.size ⟨s.toArray⟩ pos (pos+1) hk;have hx1:Ext w (wr.iterAt w.heap.size ⟨s.toArray⟩ (pos+1)):=Lib.below_iterAt hx (Nat.le_refl _) ⟨s.toArray⟩ (pos+1);generalize wr.iterAt w.heap.size ⟨s.toArray⟩ (pos+1)=W1 at hnext hk1 hx1;have HK1:=η9 hk1;have HX1:=η9 hx1;have hmb:m≤9999999999:=by
      have:=z0D _ HM.out.1;rw[←HM.out.2] at this;have h2:(s.take pos).length≤10:=by rw[List.length_take];have:=HL1.out;omega
      have h3:10^(s.take pos).length≤10^10:=Nat.pow_le_pow_right (by decide) h2;have h4:(10:Nat)^10=10000000000:=by decide
      omega
     obtain ⟨mi,hmi⟩: ∃mi:Int,(m:Int)=mi:=⟨_,rfl⟩
     obtain ⟨ui,hui⟩: ∃ui:Int,(u.toNat:Int)=ui:=⟨_,rfl⟩
     rw[hui] at hnext;rw[hmi];have hm0:0≤mi∧mi≤9999999999:=by omega
     have hu0:0≤ui∧ui<128:=by omega
     have HMi:=η9 hmi;have HUi:=η9 hui;clear hk hx hk1 hx1 hmu hu1 hu hmb hmi hui ha;obtain ⟨hm0,hm1⟩:=hm0;obtain ⟨hu0,hu2⟩:=hu0;by_cases hlo:ui<48
     ·have HN:=η9 (q3d (l:=s) (.inr (.inr (.inr (q4W HU.out (by rw[Bool.eq_false_iff];intro h;have:=(q1H u).1 h;have:=HUi.out;omega))))))
      have d4:decide (ui<(48:Int))=true:=decide_eq_true hlo;clear hlo;go_wp2_with fail;go_ret;exact ⟨by rw[HN.out];rfl,HX1.out⟩
     have d4:decide (ui<(48:Int))=false:=decide_eq_false hlo;by_cases hhi:57<ui
     ·have HN:=η9 (q3d (l:=s) (.inr (.inr (.inr (q4W HU.out (by rw[Bool.eq_false_iff];intro h;have:=(q1H u).1 h;have:=HUi.out;omega))))))
      have d5:decide ((57:Int)<ui)=true:=decide_eq_true hhi;clear hlo hhi;go_wp2_with fail;go_ret;exact ⟨by rw[HN.out];rfl,HX1.out⟩
     have d5:decide ((57:Int)<ui)=false:=decide_eq_false hhi;have q1:IntKind.i64.wrap (10*mi)=10*mi:=by rw[IntKind.wrap_i64];omega
     have q2:IntKind.i32.wrap (ui-48)=ui-48:=by rw[IntKind.wrap_i32];omega
     have q3:IntKind.i64.wrap (ui-48)=ui-48:=by rw[IntKind.wrap_i64];omega
     have q4:IntKind.i64.wrap (10*mi+(ui-48))=10*mi+(ui-48):=by rw[IntKind.wrap_i64];omega
     have HM2:Hid ((s.take (pos+1)).all q0U=true∧unD (s.take (pos+1))=unD (s.take pos)*10+(u.toNat-48)):=η9 ⟨q3R HU.out HM.out.1 ((q1H u).2 (by have:=HUi.out;omega)),q2o HU.out⟩;have HR:Hid (10*mi+(ui-48)=((m*10+(u.toNat-48):Nat):Int)):=η9 (by have:=HMi.out;have:=HUi.out;omega);clear hlo hhi;go_wp2_with fail
     go_roundw
     case rel=>exact ⟨pos+1,m*10+(u.toNat-48),by rw[HR.out],by omega,HK1.out,η9 ⟨HM2.out.1,by rw[HM2.out.2,←HM.out.2]⟩,HX1.out⟩
     case measure=>
      have hmu2:W1.iterPos w.heap.size=pos+1:=by simp[World.iterPos,HK1.out]
      rw[HMu.out,hmu2];omega
    ·have hnext: ∀ty,(Instr.next (.pointer (some ⟨w.heap.size,0,none⟩)) true ty).run Tryz.prog wr=_:=fun ty=>Lib.run_next_any_at wr w.heap.size ⟨s.toArray⟩ pos ty hk hp
     have hd:=decode_high ⟨s.toArray⟩ pos hp (by rw[hu1];omega);have hd2:=decode_le ⟨s.toArray⟩ pos;have hx1:Ext w (wr.iterAt w.heap.size ⟨s.toArray⟩ (pos+(Utf8.decode ⟨s.toArray⟩ pos).2)):=Lib.below_iterAt hx (Nat.le_refl _) ⟨s.toArray⟩ _;obtain ⟨ri,hri⟩: ∃ri:Int,((Utf8.decode ⟨s.toArray⟩ pos).1:Int)=ri:=⟨_,rfl⟩
     rw[hri] at hnext;have hr0:128≤ri:=by omega
     generalize wr.iterAt w.heap.size ⟨s.toArray⟩ (pos+(Utf8.decode ⟨s.toArray⟩ pos).2)=W1 at hnext hx1;have HX1:=η9 hx1;have HN:=η9 (q3d (l:=s) (.inr (.inr (.inr (q4W HU.out (by rw[Bool.eq_false_iff];intro h;have:=(q1H u).1 h;omega))))));have d4:decide (ri<(48:Int))=false:=decide_eq_false (by omega);have d5:decide ((57:Int)<ri)=true:=decide_eq_true (by omega);clear hk hx hx1 hmu hu1 hu hd hd2 hri ha hr0;go_wp2_with fail;go_ret;exact ⟨by rw[HN.out];rfl,HX1.out⟩
   ·obtain rfl:pos=s.length:=by omega
    have hnext: ∀ty,(Instr.next (.pointer (some ⟨w.heap.size,0,none⟩)) true ty).run Tryz.prog wr=_:=fun ty=>Lib.run_next_end_at wr w.heap.size ⟨s.toArray⟩ s.length ty hk (by simp[ByteArray.size])
    have hta:s.take s.length=s:=List.take_length;have HM2:=HM.out;rw[hta] at HM2
    have HN:Hid (z6Z s=(m:Int)):=η9 (by
     rw[HM2.2];refine z2l ?_;rintro (h|h|h|h)
     ·exact HL0.out h
     ·have:=HL1.out;omega
     ·exact HZ.out h
     ·rw[HM2.1] at h;cases h)
    clear hta HM2 hk hmu hx;go_wp2_with fail;go_ret;exact ⟨by rw[HN.out];rfl,HX.out⟩
theorem z8y (s:List UInt8) (w:World):Calls Tryz.prog 196 #[.string ⟨s.toArray⟩,.int .u8 58] w fun e w'=>e= .returned (.int .i64 (Lib.indexByte s 58))∧w'=w:=Any.stringslite_IndexByte Tryz.idx217 ⟨s.toArray⟩ 58 w
theorem z1y : ∀{s:List UInt8},58∉s→Lib.indexByte s 58= -1
 |[],_=>rfl
 | b::l,h=>by
  have h1:(b==58)=false:=beq_eq_false_iff_ne.2 fun e=>h (by rw[e];exact .head _)
  have h2:=z1y (s:=l) fun e=>h (.tail _ e)
  unfold Lib.indexByte;rw[h1,h2];rfl
theorem z0N : ∀{s:List UInt8},58∈s→Lib.indexByte s 58=((s.takeWhile (· !=58)).length:Int)∧(s.takeWhile (· !=58)).length<s.length
 |[],h=>by cases h
 | b ::l,h=>by
  by_cases e:b=58
  ·subst e;unfold Lib.indexByte;simp
  ·have h1:(b==58)=false:=beq_eq_false_iff_ne.2 e
   have hb:(b !=58)=true:=by simpa using e
   obtain ⟨h2,h3⟩:=z0N (s:=l) (by rcases List.mem_cons.1 h with h|h;exact absurd h.symm e;exact h);rw[List.takeWhile_cons,hb];simp only[if_true,List.length_cons];refine ⟨?_,by omega⟩;unfold Lib.indexByte;rw[h1,h2];have h4:(((l.takeWhile (· !=58)).length:Int)== -1)=false:=beq_eq_false_iff_ne.2 (by omega);rw[h4];simp
theorem z8z (s:List UInt8):s.take (s.takeWhile (· !=58)).length=s.takeWhile (· !=58):=by
 conv=>lhs;arg 2;rw[←List.takeWhile_append_dropWhile (p:=(· !=58)) (l:=s)]
 exact List.take_left
theorem z9p (s:List UInt8):s.drop ((s.takeWhile (· !=58)).length+1)=(s.dropWhile (· !=58)).tail:=by
 rw[←List.drop_drop,←List.drop_one]
 congr 1
 conv=>lhs;arg 2;rw[←List.takeWhile_append_dropWhile (p:=(· !=58)) (l:=s)]
 exact List.drop_left
def y1o (s:List UInt8) (w:World) (e:Ending) (w':World):Prop:=Ext w w'∧
  ((58∉s∧e= .returned (.tuple #[.string ⟨s.toArray⟩,.string ⟨#[]⟩,.bool false]))∨(58∈s∧e= .returned (.tuple #[.string ⟨(s.takeWhile (· !=58)).toArray⟩,.string ⟨((s.dropWhile (· !=58)).tail).toArray⟩,.bool true])))
theorem z5i (s:List UInt8) (w:World):Calls Tryz.prog 146 #[.string ⟨s.toArray⟩,.string ⟨#[58]⟩] w fun e w'=>e= .returned (.int .i64 (Lib.indexByte s 58))∧w'=w:=by
 have HI:=η9 (fun W=>z8y s W);by_cases h:[58]=s
 ·subst h
  go_enter Tryz.func146,Tryz.ntmps146;go_wp2_with fail;go_ret;exact ⟨rfl,rfl⟩
 ·have d0:([58]==s)=false:=beq_eq_false_iff_ne.2 h
  clear h;generalize Lib.indexByte s 58=k at*;go_enter Tryz.func146,Tryz.ntmps146;go_wp2_with fail;refine (HI.out _).mono ?_;rintro e w1 ⟨rfl,rfl⟩;go_wp2_with fail;go_ret;exact ⟨rfl,rfl⟩
theorem z7M (s:List UInt8) (hs:s.length≤4611686018427387903) (w:World):Calls Tryz.prog 98 #[.string ⟨s.toArray⟩,.string ⟨#[58]⟩] w (y1o s w):=by
 have HI:=η9 (fun W=>z5i s W);by_cases hm:58∈s
 ·obtain ⟨h1,h2⟩:=z0N hm
  have h3:=z8z s;have h4:=z9p s;rw[h1] at HI;have HM:=η9 hm;unfold y1o;generalize s.takeWhile (· !=58)=A at*;generalize (s.dropWhile (· !=58)).tail=B at*;obtain ⟨k,hk⟩: ∃k,A.length=k:=⟨_,rfl⟩
  rw[hk] at h2 h3 h4 HI;have d1:decide ((0:Int)≤(k:Int))=true:=decide_eq_true (by omega);have q1:IntKind.i64.wrap ((k:Int)+1)=(k:Int)+1:=by rw[IntKind.wrap_i64];omega
  have HT:=η9 h3;have HD:=η9 h4;have q2:k≤s.length:=by omega
  have q3:k+1≤s.length:=by omega
  clear hm h1 h3 h4 hk h2;go_enter Tryz.func98,Tryz.ntmps98;go_wp2_with fail;refine (HI.out _).mono ?_;rintro e w1 ⟨rfl,rfl⟩;go_wp2_with fail;refine q0E (by kernel_rfl) (by kernel_rfl) ?_
  repeat (go_big_quiet_step (fail))
  refine wpQuiet_nil ?_;intro w3 hw;have HX3:=η9 hw;clear hw;go_wp2_with fail;go_ret3;exact ⟨HX3.out,.inr ⟨HM.out,by rw[←HT.out,←HD.out];rfl⟩⟩
 ·rw[z1y hm] at HI
  have HM:=η9 hm;clear hm;go_enter Tryz.func98,Tryz.ntmps98;go_wp2_with fail;refine (HI.out _).mono ?_;rintro e w1 ⟨rfl,rfl⟩;go_wp2_with fail;go_ret3;exact ⟨Ext.refl _,.inl ⟨HM.out,rfl⟩⟩
theorem z8l (s:List UInt8) (hs:s.length≤4611686018427387903) (w:World):Calls Tryz.prog 55 #[.string ⟨s.toArray⟩,.string ⟨#[58]⟩] w (y1o s w):=by
 have HL:=η9 (z7M s hs w);go_enter Tryz.func55,Tryz.ntmps55;go_wp2_with fail;refine HL.out.mono ?_;rintro e w1 ⟨hx,⟨hm,rfl⟩|⟨hm,rfl⟩⟩
 all_goals
  have HX:=η9 hx;have HM:=η9 hm;clear hx hm HL;go_wp2_with fail;go_ret3
  first
   |exact ⟨HX.out,.inl ⟨HM.out,rfl⟩⟩
   |exact ⟨HX.out,.inr ⟨HM.out,rfl⟩⟩
end
end Go.Proofs.YthdekbmdkpcooaaGreatDoor
