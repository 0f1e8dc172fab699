/- Plain laws. -/
import Derived.Test.YtjlcdfpbllobaaaGreatDoorG3CL
import Derived.Lib.ItoaNum
import Derived.Shelf.Strconv.Itoa3
import Derived.Shelf.Strings.Search1
import Derived.Test.YtjlcdfpbllobaaaGreatDoorG7CL
import Derived.Lib.AppendIntMem
import Derived.Lib.OthersKept
set_option linter.unusedVariables false
set_option linter.unusedSimpArgs false
set_option maxRecDepth 100000
set_option maxHeartbeats 6400000
namespace Go.Proofs.YtjlcdfpbllobaaaGreatDoor
variable {n:Nat}
section
open Go.RowKit
theorem y0b(h:n<10):(UInt8.ofNat (48+n)).toNat=48+n:=by
 have:=q5F n
 rwa [Nat.mod_eq_of_lt h] at this
theorem q7c(h:n<10):q0m (UInt8.ofNat (48+n))=true:=by
 unfold q0m;rw[y0b h,Ξ,decide_eq_true_iff,decide_eq_true_iff];omega
theorem z7s(n:Nat):(Lib.decDigits n).all q0m=true:=by
 induction n using Nat.strongRecOn with
 | _ n ih=>
  by_cases h:n<10
  ·rw[Lib.decDigits_one h,List.all_cons,q7c h];rfl
  ·rw[Lib.decDigits,dif_neg h,List.all_append,ih (n/10) (by omega),List.all_cons,q7c (Nat.mod_lt _ (by decide))];rfl
theorem y2I(n:Nat):Lib.decDigits n≠[]:=fun e=>by
 have h:=Lib.decDigits_length n;rw[e] at h;have:=Lib.nDigits_pos n;simp at h;omega
theorem y3z(n:Nat):unD (Lib.decDigits n)=n:=by
 induction n using Nat.strongRecOn with
 | _ n ih=>
  by_cases h:n<10
  ·rw[Lib.decDigits_one h,q8P,y0b h];simp[unD]
  ·rw[Lib.decDigits,dif_neg h,z1t,ih (n/10) (by omega),y0b (Nat.mod_lt _ (by decide))];omega
theorem y4A{l:List UInt8}(h:l.all q0m=true)(i:l≠[])(m:l.getD 0 0≠48):1<=unD l:=by
 cases l with
 |nil=>exact absurd rfl i
 | cons b t=>
  rw[q8P];have d:q0m b=true:=by rw[List.all_cons,Ξ] at h;exact h.1
  unfold q0m at d;rw[Ξ,decide_eq_true_iff,decide_eq_true_iff] at d;have o:b.toNat≠48:=fun e=>m (by show b=48;exact UInt8.toNat_inj.1 e)
  have j:1<=10^t.length:=Nat.one_le_pow _ _ (by decide);have:1*1<=(b.toNat-48)*10^t.length:=Nat.mul_le_mul (by omega) j;omega
theorem y2q(l :List UInt8):l.all q0m=true->l≠[]->(l.length=1\/l.getD 0 0≠48)->Lib.decDigits (unD l)=l:=by
 have H : ∀ n,∀l:List UInt8,l.length=n->l.all q0m=true->l≠[]->(l.length=1\/l.getD 0 0≠48)->Lib.decDigits (unD l)=l:=fun n=>by
  induction n with
  |zero=>intro l r _ q;exact absurd (List.length_eq_zero_iff.1 r) q
  | succ n ih=>
   intro l r o q j;rcases List.eq_nil_or_concat l with e|⟨t,b,e⟩
   ·exact absurd e q
   ·rw [List.concat_eq_append] at e
    subst e;rw[θ,List.length_singleton] at r;rw[List.all_append,Ξ] at o;have s:q0m b=true:=by have:=o.2;rw[List.all_cons,Ξ] at this;exact this.1
    unfold q0m at s;rw[Ξ,decide_eq_true_iff,decide_eq_true_iff] at s;have d:UInt8.ofNat (48+(b.toNat-48))=b:=by
     rw[show 48+(b.toNat-48)=b.toNat by omega];exact UInt8.ofNat_toNat
    rw[z1t];by_cases i:t=[]
    ·subst i
     rw[show unD []*10+(b.toNat-48)=b.toNat-48 by simp[unD],Lib.decDigits_one (by omega),d];rfl
    ·have m:t.getD 0 0≠48:=by
      rcases j with j|j
      ·rw[θ,List.length_singleton] at j
       exact absurd (List.length_eq_zero_iff.1 (by omega)) i
      ·cases t with
       |nil=>exact absurd rfl i
       |cons a t=>exact j
     have u:=y4A o.1 i m;rw[Lib.decDigits,dif_neg (by omega),show(unD t*10+(b.toNat-48))/10=unD t by omega,ih t (by omega) o.1 i (.inr m),show(unD t*10+(b.toNat-48)) % 10=b.toNat-48 by omega,d]
 exact H l.length l rfl
theorem q8g(h:n<10000000000):(Lib.decDigits n).length<=10:=by
 have H : ∀k n:Nat,n<10^(k+1)->(Lib.decDigits n).length<=k+1:=fun k=>by
  induction k with
  |zero=>intro n b;rw[Lib.decDigits_one (by simpa using b)];simp
  | succ k ih=>
   intro n b;by_cases h:n<10
   ·rw[Lib.decDigits_one h];simp
   ·rw[Lib.decDigits,dif_neg h,θ,List.length_singleton]
    have:=ih (n/10) (by rw[Nat.pow_succ] at b;omega);omega
 exact H 9 n (by simpa using h)
theorem y0Y(h:(Lib.decDigits n).getD 0 0=48):(Lib.decDigits n).length=1:=by
 by_cases i:n<10
 ·rw[Lib.decDigits_one i];rfl
 ·have j : (Lib.decDigits n).length=1\/n=0:=by
   have H : ∀n:Nat,(Lib.decDigits n).getD 0 0=48->n=0:=fun n=>by
    induction n using Nat.strongRecOn with
    | _ n ih=>
     intro b;by_cases h:n<10
     ·rw[Lib.decDigits_one h] at b
      have:=congrArg UInt8.toNat (show UInt8.ofNat (48+n)=48 from b);rw[y0b h] at this
      simpa using this
     ·have d:=y2I (n/10)
      rw[Lib.decDigits,dif_neg h] at b
      cases hd:Lib.decDigits (n/10) with
      |nil=>exact absurd hd d
      | cons a t=>
       rw[hd] at b;have:=ih (n/10) (by omega) (by rw[hd];exact b);omega
   exact .inr (H n h)
  omega
structure Cur where
 st:List UInt8
 nx:Int
 dn:Bool
deriving DecidableEq
abbrev z7Q :Cur:=⟨[],0,false⟩
def q4F(c:Cur):Bool:=q1N c.st&&decide (c.nx<=1073741824)&&(decide (0<=c.nx)||(c.dn&&decide (c.nx= -1)))
def z6J(d:Bool):UInt8:=if d then 98 else 102
def q6x(c:Cur):List UInt8:=z6J c.dn::(Lib.decDigits (c.nx+1).toNat++58::c.st)
theorem q4f{c:Cur}(h:q4F c=true):q1N c.st=true/\ -1<=c.nx/\c.nx<=1073741824:=by
 unfold q4F at h;simp only[Ξ,Bool.or_eq_true,decide_eq_true_iff] at h;refine⟨h.1.1,?_,h.1.2⟩;rcases h.2 with h|h<;>omega
def z5e(l:List UInt8):Option Nat:=if l=[]\/10<l.length\/(1<l.length/\l.getD 0 0=48)\/l.all q0m=false then none else some (unD l)
def q4d(s:List UInt8):Option Cur:=
 if 58∉s then none else match s.takeWhile (· !=58) with
 |[]=>none
 | h::ds=>if h≠102/\h≠98 then none else match z5e ds with
  |none=>none
  |some n=>if q4F ⟨(s.dropWhile (· !=58)).drop 1,(n:Int)-1,h==98⟩=true then some ⟨(s.dropWhile (· !=58)).drop 1,(n:Int)-1,h==98⟩ else none
theorem y3y{p:UInt8->Bool}{l:List UInt8}(h:l.all p=true){x:UInt8}(i:p x=false)(r:List UInt8):(l++x::r).takeWhile p=l/\(l++x::r).dropWhile p=x::r:=by
 induction l with
 |nil=>simp[i]
 | cons a l ih=>
  rw[List.all_cons,Ξ] at h;obtain⟨b,d⟩:=ih h.2
  constructor
  ·rw[List.cons_append,List.takeWhile_cons,h.1];simp only[if_true];rw[b]
  ·rw[List.cons_append,List.dropWhile_cons,h.1];simp only[if_true];exact d
theorem z2u{l:List UInt8}(h:z5e l=some n):l≠[]/\l.length<=10/\l.all q0m=true/\n=unD l/\Lib.decDigits n=l:=by
 unfold z5e at h
 split at h
 ·cases h
 ·rename_i b
  cases h;have d:l≠[]:=fun e=>b (.inl e)
  have i:l.all q0m=true:=by cases hd:l.all q0m;exact absurd (.inr (.inr (.inr hd))) b;rfl
  have m:l.length=1\/l.getD 0 0≠48:=by
   by_cases e:l.getD 0 0=48
   ·left
    have:¬1<l.length:=fun j=>b (.inr (.inr (.inl ⟨j,e⟩)))
    have:=List.length_pos_iff.2 d;omega
   ·exact .inr e
  exact⟨d,by have:¬10<l.length:=fun e=>b (.inr (.inl e));omega,i,rfl,y2q l i d m⟩
theorem y1V(h:n<10000000000):z5e (Lib.decDigits n)=some n:=by
 unfold z5e;rw[κ,y3z];rintro(e|e|⟨e,b⟩|e)
 ·exact y2I n e
 ·have:=q8g h;omega
 ·have:=y0Y b;omega
 ·rw[z7s] at e;cases e
theorem z8V(s : List UInt8)(c:Cur):q4d s=some c↔q4F c=true/\q6x c=s:=by
 unfold q4d
 constructor
 ·intro h
  split at h
  ·cases h
  ·rename_i hc
   have hm:58∈s:=Decidable.not_not.1 hc
   split at h
   ·cases h
   ·rename_i j ds q
    split at h
    ·cases h
    ·rename_i I
     split at h
     ·cases h
     ·rename_i n J
      split at h
      ·rename_i i
       cases h;refine⟨i,?_⟩;obtain⟨_,_,_,_,E⟩:=z2u J;have B:s=s.takeWhile (· !=58)++s.dropWhile (· !=58):=(List.takeWhile_append_dropWhile (p:=(· !=58)) (l:=s)).symm;have F : ∃r,s.dropWhile (· !=58)=58::r:=by
        have : ∀ l:List UInt8,58∈l-> ∃r,l.dropWhile (· !=58)=58::r:=fun l=>by
         induction l with
         |nil=>intro h;cases h
         | cons a l ih=>
          intro h;by_cases e:a=58
          ·subst e;exact⟨l,by simp⟩
          ·rcases List.mem_cons.1 h with h|h
           ·exact absurd h.symm e
           ·obtain⟨r,m⟩:=ih h
            exact⟨r,by rw[List.dropWhile_cons];simp[e,m]⟩
        exact this s hm
       obtain⟨r,m⟩:=F;have e0:z6J (j==98)=j:=by
        unfold z6J;by_cases e:j=98
        ·subst e;rfl
        ·have b:j=102:=Decidable.not_not.1 fun b=>I ⟨b,e⟩
         subst b;rfl
       unfold q6x;simp only;rw[m,e0,show((n:Int)-1+1).toNat=n by omega,E];rw[q,m] at B;exact B.symm
      ·cases h
 ·rintro⟨o,u⟩
  have G:=q4f o;obtain⟨st,nx,dn⟩:=c;simp only at G o u;have d:(z6J dn::Lib.decDigits (nx+1).toNat).all (· !=58)=true:=by
   rw[List.all_cons,Ξ];refine⟨by cases dn<;>decide,List.all_eq_true.2 fun x M=>?_⟩;have:=List.all_eq_true.1 (z7s (nx+1).toNat) x M;simp only[bne_iff_ne,ne_eq];rintro rfl;exact absurd this (by decide)
  have C:s=(z6J dn::Lib.decDigits (nx+1).toNat)++58::st:=by rw[<-u];unfold q6x;rfl
  obtain⟨v,y⟩:=y3y d (x:=58) (by decide) st;rw[<-C] at v y;rw[κ (by rw[Decidable.not_not,C];simp),v,y];simp only;rw[κ (by cases dn<;>simp[z6J]),y1V (by omega)];simp only;have D:(((nx+1).toNat:Nat):Int)-1=nx:=by omega
  have b:(z6J dn==98)=dn:=by cases dn<;>rfl
  rw[D,b,show(58::st).drop 1=st from rfl,ξ o]
end
end Go.Proofs.YtjlcdfpbllobaaaGreatDoor
namespace Go.Proofs
open Go.Shelf
def Tryz.itoa171_ren :Go.Shelf.Ren:=⟨fun|171=>67|243=>114|246=>172|283=>219|284=>220|285=>221|286=>222|129=>256|317=>255|318=>257|319=>258|320=>259|337=>288|338=>289|n=>n,fun|3=>3|9=>9|2=>2|4=>4|171=>317|0=>0|53=>46|37=>177|5=>5|173=>320|212=>349|51=>294|20=>20|213=>350|46=>222|232=>400|233=>401|n=>n,fun|17=>2|18=>3|19=>4|n=>n⟩
theorem Tryz.itoa171 :Go.Proofs.LaysM.n171 Tryz.prog Tryz.itoa171_ren:={
 mixed:=by kernel_rfl
 f129:=Tryz.func256.trans (congrArg some (by kernel_rfl))
 f171:=Tryz.func67.trans (congrArg some (by kernel_rfl))
 f243:=Tryz.func114.trans (congrArg some (by kernel_rfl))
 f246:=Tryz.func172.trans (congrArg some (by kernel_rfl))
 f283:=Tryz.func219.trans (congrArg some (by kernel_rfl))
 f284:=Tryz.func220.trans (congrArg some (by kernel_rfl))
 f285:=Tryz.func221.trans (congrArg some (by kernel_rfl))
 f286:=Tryz.func222.trans (congrArg some (by kernel_rfl))
 f317:=Tryz.func255.trans (congrArg some (by kernel_rfl))
 f318:=Tryz.func257.trans (congrArg some (by kernel_rfl))
 f319:=Tryz.func258.trans (congrArg some (by kernel_rfl))
 f320:=Tryz.func259.trans (congrArg some (by kernel_rfl))
 f337:=Tryz.func288.trans (congrArg some (by kernel_rfl))
 f338:=Tryz.func289.trans (congrArg some (by kernel_rfl))
 t0:=Tryz.underlying0
 a0:=Tryz.isAgg0
 z0:=Tryz.sizeOf0
 v0:=Tryz.zeroValue0
 t2:=Tryz.underlying2
 a2:=Tryz.isAgg2
 z2:=Tryz.sizeOf2
 v2:=Tryz.zeroValue2
 t3:=Tryz.underlying3
 a3:=Tryz.isAgg3
 z3:=Tryz.sizeOf3
 v3:=Tryz.zeroValue3
 t4:=Tryz.underlying4
 a4:=Tryz.isAgg4
 z4:=Tryz.sizeOf4
 v4:=Tryz.zeroValue4
 t5:=Tryz.underlying5
 a5:=Tryz.isAgg5
 z5:=Tryz.sizeOf5
 v5:=Tryz.zeroValue5
 t9:=Tryz.underlying9
 a9:=Tryz.isAgg9
 z9:=Tryz.sizeOf9
 v9:=Tryz.zeroValue9
 t20:=Tryz.underlying20
 a20:=Tryz.isAgg20
 z20:=Tryz.sizeOf20
 v20:=Tryz.zeroValue20
 t37:=Tryz.underlying177
 a37:=Tryz.isAgg177
 z37:=Tryz.sizeOf177
 v37:=Tryz.zeroValue177
 t46:=Tryz.underlying222
 a46:=Tryz.isAgg222
 z46:=Tryz.sizeOf222
 v46:=Tryz.zeroValue222
 t51:=Tryz.underlying294
 a51:=Tryz.isAgg294
 z51:=Tryz.sizeOf294
 v51:=Tryz.zeroValue294
 t53:=Tryz.underlying46
 a53:=Tryz.isAgg46
 z53:=Tryz.sizeOf46
 v53:=Tryz.zeroValue46
 t171:=Tryz.underlying317
 a171:=Tryz.isAgg317
 z171:=Tryz.sizeOf317
 v171:=Tryz.zeroValue317
 t173:=Tryz.underlying320
 a173:=Tryz.isAgg320
 z173:=Tryz.sizeOf320
 v173:=Tryz.zeroValue320
 t212:=Tryz.underlying349
 a212:=Tryz.isAgg349
 z212:=Tryz.sizeOf349
 v212:=Tryz.zeroValue349
 t213:=Tryz.underlying350
 a213:=Tryz.isAgg350
 z213:=Tryz.sizeOf350
 t232:=Tryz.underlying400
 a232:=Tryz.isAgg400
 z232:=Tryz.sizeOf400
 v232:=Tryz.zeroValue400
 t233:=Tryz.underlying401
 a233:=Tryz.isAgg401
 z233:=Tryz.sizeOf401
 v233:=Tryz.zeroValue401
 g17:=by kernel_rfl
 g18:=by kernel_rfl
 g19:=by kernel_rfl
 i0:=by kernel_rfl
 i2:=by kernel_rfl
 i3:=by kernel_rfl
 i4:=by kernel_rfl
 i5:=by kernel_rfl
 i9:=by kernel_rfl
 i20:=by kernel_rfl
 i37:=by kernel_rfl
 i46:=by kernel_rfl
 i51:=by kernel_rfl
 i53:=by kernel_rfl
 i171:=by kernel_rfl
 i173:=by kernel_rfl
 i212:=by kernel_rfl
 i232:=by kernel_rfl
 i233:=by kernel_rfl
 m17:=by kernel_rfl
 m18:=by kernel_rfl
 m19:=by kernel_rfl}
def Tryz.idx217_ren :Go.Shelf.Ren:=⟨fun|217=>223|266=>260|n=>n,fun|9=>9|5=>5|3=>3|n=>n,fun|n=>n⟩
theorem Tryz.idx217 :Go.Proofs.Lays.n217 Tryz.prog Tryz.idx217_ren:={
 mixed:=by kernel_rfl
 f217:=Tryz.func223.trans (congrArg some (by kernel_rfl))
 f266:=Tryz.func260.trans (congrArg some (by kernel_rfl))
 t3:=Tryz.underlying3
 a3:=Tryz.isAgg3
 z3:=Tryz.sizeOf3
 v3:=Tryz.zeroValue3
 t5:=Tryz.underlying5
 a5:=Tryz.isAgg5
 z5:=Tryz.sizeOf5
 v5:=Tryz.zeroValue5
 t9:=Tryz.underlying9
 a9:=Tryz.isAgg9
 z9:=Tryz.sizeOf9
 v9:=Tryz.zeroValue9}
end Go.Proofs
namespace Go.Proofs.YtjlcdfpbllobaaaGreatDoor
variable {l:List UInt8}
section
open Go.RowKit
abbrev z9z(c:Cur):Value:= .agg #[.string ⟨c.st.toArray⟩,.int .i64 c.nx,.bool c.dn]
theorem q3E(st:List UInt8)(nx:Int)(dn:Bool):q4F ⟨st,nx,dn⟩=true↔q1N st=true/\nx<=1073741824/\(0<=nx\/(dn=true/\nx= -1)):=by
 unfold q4F;simp only[Ξ,Bool.or_eq_true,decide_eq_true_iff];exact⟨fun h=>⟨h.1.1,h.1.2,h.2⟩,fun h=>⟨⟨h.1,h.2.1⟩,h.2.2⟩⟩
theorem q8B(c:Cur)(s:c.st.length<=9223372036854775807)(w:World):Calls Tryz.prog 64 #[z9z c] w fun e w'=>e= .returned (.int .i64 (if q4F c=true then 0 else 2))/\Ext w w':=by
 obtain⟨st,nx,dn⟩:=c;simp only at s;have r:=η (fun W=>z1n st W s);have d:=q0B w (.cells #[.string ⟨st.toArray⟩,.int .i64 nx,.bool dn] 86);have u:=η d;have q:=η (Blk.new w 86 #[.string ⟨st.toArray⟩,.int .i64 nx,.bool dn]);obtain⟨z,i⟩: ∃z,(if q4F ⟨st,nx,dn⟩=true then(0:Int) else 2)=z:=⟨_,rfl⟩
 have v:Hd (q1N st=true/\nx<=1073741824/\(0<=nx\/(dn=true/\nx= -1))->z=0):=η fun h=>by rw[<-i,ξ ((q3E st nx dn).2 h)]
 have b:Hd (¬(q1N st=true/\nx<=1073741824/\(0<=nx\/(dn=true/\nx= -1)))->z=2):=η fun h=>by rw[<-i,κ fun e=>h ((q3E st nx dn).1 e)]
 rw[i];clear d i;generalize q1N st=sb at*;go_enter Tryz.func64,Tryz.ntmps64
 cases dn
 all_goals
  go_wp2_with fail;refine(r.o _).mono ?_;rintro e w1 ⟨rfl,m⟩;have k1:=(q.o.ext m).cell 1;have j:=η (u.o.trans m);clear m r q
  cases sb
  all_goals
   go_wp2_with fail
   all_goals
    go_ret;refine⟨?_,j.o⟩
    first
     |rw[b.o (by rintro⟨x,_,_⟩;simp at x;done)];rfl
     |rw[b.o (by rintro⟨_,B,y⟩;(try simp at y);omega)];rfl
     |rw[v.o ⟨by simp,by omega,by simp;omega⟩];rfl
abbrev TabW(w:World):Prop:=Lib.TabIs Tryz.prog w "internal/strconv.uint64pow10" .u64 Lib.pow10Tab
theorem TabW.ext{w w':World}(h:TabW w)(k:Ext w w'):TabW w':=Lib.tabBelow_of_tabIs h w' k
theorem y4d(n:Nat)(j:n<=1073741825)(w:World)(d:TabW w):Calls Tryz.prog 67 #[.int .i64 (n:Int)] w fun e w'=>e= .returned (.string ⟨(Lib.decDigits n).toArray⟩)/\Ext w w':=by
 refine(Any.strconv_Itoa Tryz.itoa171 (n:Int) (by omega) (by omega) w d).mono ?_;rintro e w' ⟨rfl,k,os,rfl⟩;refine⟨by rw[Lib.itoa_nonneg],?_⟩;exact(Ext.refl _).drewN k|>.trans ⟨rfl,rfl,rfl,by show(w.drewN k).heap.size<=((w.drewN k).heap++os).size;rw[Array.size_append];omega,fun i b=>Array.getElem?_append_left b⟩
def y4E(c:Cur):List UInt8:=if q4F c=true then q6x c else []
theorem z1R{c:Cur}(h:q4F c=true):c.st.length<=32:=by
 have:=(q4f h).1;unfold q1N at this;rw[Ξ,decide_eq_true_iff,decide_eq_true_iff] at this;exact this.2
theorem z7n(c:Cur)(F:c.st.length<=9223372036854775807)(w:World)(I:TabW w):Calls Tryz.prog 30 #[z9z c] w fun e w'=>e= .returned (.tuple #[.string ⟨(y4E c).toArray⟩,.int .i64 (if q4F c=true then 0 else 2)])/\Ext w w':=by
 have u:=η (fun W=>q8B c F W);have i:=@z1R c;have b:=@q4f c;have r:Hd (y4E c=if q4F c=true then z6J c.dn::(Lib.decDigits (c.nx+1).toNat++58::c.st) else []):=η rfl;obtain⟨st,nx,dn⟩:=c;have q:=q0B w (.cells #[.string ⟨st.toArray⟩,.int .i64 nx,.bool dn] 86);have O:=η q;have E:=η (Blk.new w 86 #[.string ⟨st.toArray⟩,.int .i64 nx,.bool dn]);have N:=η I;simp only at F i b;obtain⟨m,hm⟩: ∃m,q4F ⟨st,nx,dn⟩=m:=⟨_,rfl⟩
 rw[hm] at u r i b⊢;clear q I hm;generalize y4E ⟨st,nx,dn⟩=R at*;go_enter Tryz.func30,Tryz.ntmps30;go_wp2_with fail;refine(u.o _).mono ?_;rintro e w1 ⟨rfl,C⟩;have d:=E.o.ext C;have k0:=d.cell 0;have k1:=d.cell 1;have Y:=d.cell 2;have j:=η (O.o.trans C);clear C u E d
 cases m with
 | false=>
  have s:Hd (R=[]):=r.o;go_wp2_with fail;go_ret2;exact⟨by rw[s.o];rfl,j.o⟩
 | true=>
  have G:=i rfl;obtain⟨_,y,B⟩:=b rfl;obtain⟨n,Q⟩: ∃n:Nat,nx+1=(n:Int):=⟨(nx+1).toNat,by omega⟩
  have Z:IntKind.i64.wrap (nx+1)=(n:Int):=by rw[ν];omega
  have M:=η (fun x:ExtOf w1=>y4d n (by omega) x.w' (N.o.ext (j.o.trans x.h)));have X:(Lib.decDigits n).length<=10:=q8g (by omega);have s:Hd (R=z6J dn::(Lib.decDigits n++58::st)):=η (by have:=r.o;rw[ξ rfl] at this;refine this.trans ?_;show z6J dn::(Lib.decDigits (nx+1).toNat++58::st)=_;rw[show(nx+1).toNat=n by omega]);generalize Lib.decDigits n=D at*;have u0:=q0D k0;have u1:=q0D k1;have S:¬(9223372036854775807<[z6J dn].length+D.length):=by simp;omega
  have U:¬(9223372036854775807<([z6J dn]++D).length+[(58:UInt8)].length):=by simp;omega
  have V:¬(9223372036854775807<(([z6J dn]++D)++[(58:UInt8)]).length+st.length):=by simp;omega
  clear i b y B r Q k0 k1
  cases dn
  all_goals
   simp only[z6J,Bool.false_eq_true,if_false,if_true] at S U V s;go_wp2_with fail;refine q0E (by kernel_rfl) (by kernel_rfl) ?_
   repeat (go_big_quiet_step (fail))
   go_big_quiet_step (exact Calls.quiet_ext (M.o _))
   repeat (go_big_quiet_step (fail))
   refine wpQuiet_nil ?_;intro w3 J;have v:=η (j.o.trans J);clear J;go_wp2_with fail;go_ret2;exact⟨by rw[s.o];simp[q2Q],v.o⟩
def y0D(l:List UInt8):Int:=match z5e l with|some n=>(n:Int)|none=> -1
theorem q4g(h:l=[]\/10<l.length\/(1<l.length/\l.getD 0 0=48)\/l.all q0m=false):y0D l= -1:=by
 unfold y0D z5e;rw[ξ h]
theorem z5f(h:¬(l=[]\/10<l.length\/(1<l.length/\l.getD 0 0=48)\/l.all q0m=false)):y0D l=(unD l:Int):=by
 unfold y0D z5e;rw[κ h]
theorem y1W(s:List UInt8)(hs:s.length<=9223372036854775807)(w:World):Calls Tryz.prog 69 #[.string ⟨s.toArray⟩] w fun e w'=>e= .returned (.int .i64 (y0D s))/\Ext w w':=by
 by_cases h0:s=[]
 ·have C:=η (q4g (l:=s) (.inl h0))
  have d0:(s==[])=true:=by rw[h0];rfl
  clear h0;go_enter Tryz.func69,Tryz.ntmps69;go_wp2_with fail;go_ret;exact⟨by rw[C.o];rfl,Ext.refl _⟩
 have d0:(s==[])=false:=by simpa using h0
 by_cases h1:10<s.length
 ·have C:=η (q4g (l:=s) (.inr (.inl h1)))
  have d1:decide ((10:Int)<(s.length:Int))=true:=ζ (by omega);clear h0 h1;go_enter Tryz.func69,Tryz.ntmps69;go_wp2_with fail;go_ret;exact⟨by rw[C.o];rfl,Ext.refl _⟩
 have d1:decide ((10:Int)<(s.length:Int))=false:=ε (by omega);have hp:0<s.length:=List.length_pos_iff.2 h0;obtain⟨c,hc⟩: ∃c,s[0]? =some c:=⟨_,γ hp⟩
 have q0:s.getD 0 0=c:=by rw[δ,hc];rfl
 have v0:=z6M hc;have hz:(1<s.length/\c=48)\/(1<s.length/\c≠48)\/¬1<s.length:=by
  by_cases a:1<s.length
  ·by_cases b:c=48
   ·exact .inl ⟨a,b⟩
   ·exact .inr (.inl ⟨a,b⟩)
  ·exact .inr (.inr a)
 have o0:=η h0;have e0:Hd (s.length<=10):=η (by omega);have m0:=η q0;clear hc q0 h0 h1;obtain⟨q,hq⟩: ∃q,w.heap.size=q:=⟨_,rfl⟩
 rcases hz with⟨Q,R⟩|hz
 ·have C:=η (q4g (l:=s) (.inr (.inr (.inl ⟨Q,by rw[m0.o];exact R⟩))))
  have d2:decide ((1:Int)<(s.length:Int))=true:=ζ (by omega);have d3:((c.toNat:Int)==48)=true:=by rw[R];rfl
  clear Q R;go_enter Tryz.func69,Tryz.ntmps69;go_wp2_with fail;go_ret;exact⟨by rw[C.o];rfl,Ext.refl _⟩
 have HZ:Hd (¬(1<s.length/\s.getD 0 0=48)):=η fun h=>by
  rcases hz with⟨_,h2⟩|h2
  ·exact h2 (by rw[<-m0.o];exact h.2)
  ·exact h2 h.1
 have r0:(w.iter ⟨s.toArray⟩ 0).heap[w.heap.size]? =some (.stringIter ⟨s.toArray⟩ 0):=World.iter_heap w ⟨s.toArray⟩ 0;have p0:Ext w (w.iter ⟨s.toArray⟩ 0):=(Ext.refl w).alloc _;have n0:=η r0;have l0:=η p0;clear r0 p0 hq q;rcases hz with⟨Q,R⟩|Q
 ·have d2 :decide ((1:Int)<(s.length:Int))=true:=ζ (by omega)
  have d3:((c.toNat:Int)==48)=false:=beq_eq_false_iff_ne.2 fun h=>R (UInt8.toNat_inj.1 (by show c.toNat=48;omega))
  clear Q R;go_enter Tryz.func69,Tryz.ntmps69;go_wp2_with fail
  go_loopw [3] (fun v W=> ∃pos m:Nat,v= .int .i64 (m:Int)/\pos<=s.length/\W.heap[w.heap.size]? =some (.stringIter ⟨s.toArray⟩ pos)/\Hd ((s.take pos).all q0m=true/\m=unD (s.take pos))/\Ext w W) (fun _ W=>s.length-W.iterPos w.heap.size)
  case atStart=>exact⟨0,0,rfl,υ _,n0.o,η ⟨rfl,rfl⟩,l0.o⟩
  case round=>
   obtain⟨pos,m,rfl,t0,I,U,O⟩:=hrel;have HX:=η O;have F:wr.iterPos w.heap.size=pos:=by simp[World.iterPos,I]
   by_cases X:pos<s.length
   ·obtain⟨u,hu⟩: ∃u,s[pos]? =some u:=⟨_,γ X⟩
    have hp:pos<(⟨s.toArray⟩:ByteArray).size:=by simpa [ByteArray.size] using X
    have B:=z6M hu hp;have V:=η hu;have g0:=η F;by_cases ha:u.toNat<128
    ·have d: ∀ty,(Instr.next (.pointer (some ⟨w.heap.size,0,none⟩)) true ty).run Tryz.prog wr=_:=fun ty=>Lib.run_next_ascii_at wr w.heap.size ⟨s.toArray⟩ pos ty I hp (by rw[B];exact ha)
     rw[B] at d;have J:=Lib.iterAt_heap wr w.heap.size ⟨s.toArray⟩ pos (pos+1) I;have r:Ext w (wr.iterAt w.heap.size ⟨s.toArray⟩ (pos+1)):=Lib.below_iterAt O (ι _) ⟨s.toArray⟩ (pos+1);generalize wr.iterAt w.heap.size ⟨s.toArray⟩ (pos+1)=W1 at d J r;have S:=η J;have x:=η r;have j0:m<=9999999999:=by
      have:=z6H _ U.o.1;rw[<-U.o.2] at this;have h2:(s.take pos).length<=10:=by rw[Θ];have:=e0.o;omega
      have h3:10^(s.take pos).length<=10^10:=Nat.pow_le_pow_right (by decide) h2;have h4:(10:Nat)^10=10000000000:=by decide
      omega
     obtain⟨G,M⟩: ∃G:Int,(m:Int)=G:=⟨_,rfl⟩
     obtain⟨i,N⟩: ∃i:Int,(u.toNat:Int)=i:=⟨_,rfl⟩
     rw[N] at d;rw[M];have Y:0<=G/\G<=9999999999:=by omega
     have c0:0<=i/\i<128:=by omega
     have f0:=η M;have D:=η N;clear I O J r F B hu j0 M N ha;obtain⟨Y,s0⟩:=Y;obtain⟨c0,u0⟩:=c0;by_cases y:i<48
     ·have C:=η (q4g (l:=s) (.inr (.inr (.inr (q5X V.o (by rw[Bool.eq_false_iff];intro h;have:=(q2E u).1 h;have:=D.o;omega))))))
      have d4:decide (i<(48:Int))=true:=ζ y;clear y;go_wp2_with fail;go_ret;exact⟨by rw[C.o];rfl,x.o⟩
     have d4:decide (i<(48:Int))=false:=ε y;by_cases E:57<i
     ·have C:=η (q4g (l:=s) (.inr (.inr (.inr (q5X V.o (by rw[Bool.eq_false_iff];intro h;have:=(q2E u).1 h;have:=D.o;omega))))))
      have d5:decide ((57:Int)<i)=true:=ζ E;clear y E;go_wp2_with fail;go_ret;exact⟨by rw[C.o];rfl,x.o⟩
     have d5:decide ((57:Int)<i)=false:=ε E;have q1:IntKind.i64.wrap (10*G)=10*G:=by rw[ν];omega
     have q2:IntKind.i32.wrap (i-48)=i-48:=by rw[IntKind.wrap_i32];omega
     have q3:IntKind.i64.wrap (i-48)=i-48:=by rw[ν];omega
     have q4:IntKind.i64.wrap (10*G+(i-48))=10*G+(i-48):=by rw[ν];omega
     have j:Hd ((s.take (pos+1)).all q0m=true/\unD (s.take (pos+1))=unD (s.take pos)*10+(u.toNat-48)):=η ⟨q5r V.o U.o.1 ((q2E u).2 (by have:=D.o;omega)),q4p V.o⟩;have HR:Hd (10*G+(i-48)=((m*10+(u.toNat-48):Nat):Int)):=η (by have:=f0.o;have:=D.o;omega);clear y E;go_wp2_with fail
     go_roundw
     case rel=>exact⟨pos+1,m*10+(u.toNat-48),by rw[HR.o],by omega,S.o,η ⟨j.o.1,by rw[j.o.2,<-U.o.2]⟩,x.o⟩
     case measure=>
      have Z:W1.iterPos w.heap.size=pos+1:=by simp[World.iterPos,S.o]
      rw[g0.o,Z];omega
    ·have d: ∀ty,(Instr.next (.pointer (some ⟨w.heap.size,0,none⟩)) true ty).run Tryz.prog wr=_:=fun ty=>Lib.run_next_any_at wr w.heap.size ⟨s.toArray⟩ pos ty I hp
     have hd:=decode_high ⟨s.toArray⟩ pos hp (by rw[B];omega);have i0:=decode_le ⟨s.toArray⟩ pos;have r:Ext w (wr.iterAt w.heap.size ⟨s.toArray⟩ (pos+(Utf8.decode ⟨s.toArray⟩ pos).2)):=Lib.below_iterAt O (ι _) ⟨s.toArray⟩ _;obtain⟨ri,a0⟩: ∃ri:Int,((Utf8.decode ⟨s.toArray⟩ pos).1:Int)=ri:=⟨_,rfl⟩
     rw[a0] at d;have k0:128<=ri:=by omega
     generalize wr.iterAt w.heap.size ⟨s.toArray⟩ (pos+(Utf8.decode ⟨s.toArray⟩ pos).2)=W1 at d r;have x:=η r;have C:=η (q4g (l:=s) (.inr (.inr (.inr (q5X V.o (by rw[Bool.eq_false_iff];intro h;have:=(q2E u).1 h;omega))))));have d4:decide (ri<(48:Int))=false:=ε (by omega);have d5:decide ((57:Int)<ri)=true:=ζ (by omega);clear I O r F B hu hd i0 a0 ha k0;go_wp2_with fail;go_ret;exact⟨by rw[C.o];rfl,x.o⟩
   ·obtain rfl:pos=s.length:=by omega
    have d: ∀ty,(Instr.next (.pointer (some ⟨w.heap.size,0,none⟩)) true ty).run Tryz.prog wr=_:=fun ty=>Lib.run_next_end_at wr w.heap.size ⟨s.toArray⟩ s.length ty I (by simp[ByteArray.size])
    have b0:s.take s.length=s:=List.take_length;have j:=U.o;rw[b0] at j
    have C:Hd (y0D s=(m:Int)):=η (by
     rw[j.2];refine z5f ?_;rintro(h|h|h|h)
     ·exact o0.o h
     ·have:=e0.o;omega
     ·exact HZ.o h
     ·rw[j.1] at h;cases h)
    clear b0 j I F O;go_wp2_with fail;go_ret;exact⟨by rw[C.o];rfl,HX.o⟩
 ·have d2 :decide ((1:Int)<(s.length:Int))=false:=ε (by omega)
  clear Q;go_enter Tryz.func69,Tryz.ntmps69;go_wp2_with fail
  go_loopw [3] (fun v W=> ∃pos m:Nat,v= .int .i64 (m:Int)/\pos<=s.length/\W.heap[w.heap.size]? =some (.stringIter ⟨s.toArray⟩ pos)/\Hd ((s.take pos).all q0m=true/\m=unD (s.take pos))/\Ext w W) (fun _ W=>s.length-W.iterPos w.heap.size)
  case atStart=>exact⟨0,0,rfl,υ _,n0.o,η ⟨rfl,rfl⟩,l0.o⟩
  case round=>
   obtain⟨pos,m,rfl,t0,I,U,O⟩:=hrel;have HX:=η O;have F:wr.iterPos w.heap.size=pos:=by simp[World.iterPos,I]
   by_cases X:pos<s.length
   ·obtain⟨u,hu⟩: ∃u,s[pos]? =some u:=⟨_,γ X⟩
    have hp:pos<(⟨s.toArray⟩:ByteArray).size:=by simpa [ByteArray.size] using X
    have B:=z6M hu hp;have V:=η hu;have g0:=η F;by_cases ha:u.toNat<128
    ·have d: ∀ty,(Instr.next (.pointer (some ⟨w.heap.size,0,none⟩)) true ty).run Tryz.prog wr=_:=fun ty=>Lib.run_next_ascii_at wr w.heap.size ⟨s.toArray⟩ pos ty I hp (by rw[B];exact ha)
     rw[B] at d;have J:=Lib.iterAt_heap wr w.heap.size ⟨s.toArray⟩ pos (pos+1) I;have r:Ext w (wr.iterAt w.heap.size ⟨s.toArray⟩ (pos+1)):=Lib.below_iterAt O (ι _) ⟨s.toArray⟩ (pos+1);generalize wr.iterAt w.heap.size ⟨s.toArray⟩ (pos+1)=W1 at d J r;have S:=η J;have x:=η r;have j0:m<=9999999999:=by
      have:=z6H _ U.o.1;rw[<-U.o.2] at this;have h2:(s.take pos).length<=10:=by rw[Θ];have:=e0.o;omega
      have h3:10^(s.take pos).length<=10^10:=Nat.pow_le_pow_right (by decide) h2;have h4:(10:Nat)^10=10000000000:=by decide
      omega
     obtain⟨G,M⟩: ∃G:Int,(m:Int)=G:=⟨_,rfl⟩
     obtain⟨i,N⟩: ∃i:Int,(u.toNat:Int)=i:=⟨_,rfl⟩
     rw[N] at d;rw[M];have Y:0<=G/\G<=9999999999:=by omega
     have c0:0<=i/\i<128:=by omega
     have f0:=η M;have D:=η N;clear I O J r F B hu j0 M N ha;obtain⟨Y,s0⟩:=Y;obtain⟨c0,u0⟩:=c0;by_cases y:i<48
     ·have C:=η (q4g (l:=s) (.inr (.inr (.inr (q5X V.o (by rw[Bool.eq_false_iff];intro h;have:=(q2E u).1 h;have:=D.o;omega))))))
      have d4:decide (i<(48:Int))=true:=ζ y;clear y;go_wp2_with fail;go_ret;exact⟨by rw[C.o];rfl,x.o⟩
     have d4:decide (i<(48:Int))=false:=ε y;by_cases E:57<i
     ·have C:=η (q4g (l:=s) (.inr (.inr (.inr (q5X V.o (by rw[Bool.eq_false_iff];intro h;have:=(q2E u).1 h;have:=D.o;omega))))))
      have d5:decide ((57:Int)<i)=true:=ζ E;clear y E;go_wp2_with fail;go_ret;exact⟨by rw[C.o];rfl,x.o⟩
     have d5:decide ((57:Int)<i)=false:=ε E;have q1:IntKind.i64.wrap (10*G)=10*G:=by rw[ν];omega
     have q2:IntKind.i32.wrap (i-48)=i-48:=by rw[IntKind.wrap_i32];omega
     have q3:IntKind.i64.wrap (i-48)=i-48:=by rw[ν];omega
     have q4:IntKind.i64.wrap (10*G+(i-48))=10*G+(i-48):=by rw[ν];omega
     have j:Hd ((s.take (pos+1)).all q0m=true/\unD (s.take (pos+1))=unD (s.take pos)*10+(u.toNat-48)):=η ⟨q5r V.o U.o.1 ((q2E u).2 (by have:=D.o;omega)),q4p V.o⟩;have HR:Hd (10*G+(i-48)=((m*10+(u.toNat-48):Nat):Int)):=η (by have:=f0.o;have:=D.o;omega);clear y E;go_wp2_with fail
     go_roundw
     case rel=>exact⟨pos+1,m*10+(u.toNat-48),by rw[HR.o],by omega,S.o,η ⟨j.o.1,by rw[j.o.2,<-U.o.2]⟩,x.o⟩
     case measure=>
      have Z:W1.iterPos w.heap.size=pos+1:=by simp[World.iterPos,S.o]
      rw[g0.o,Z];omega
    ·have d: ∀ty,(Instr.next (.pointer (some ⟨w.heap.size,0,none⟩)) true ty).run Tryz.prog wr=_:=fun ty=>Lib.run_next_any_at wr w.heap.size ⟨s.toArray⟩ pos ty I hp
     have hd:=decode_high ⟨s.toArray⟩ pos hp (by rw[B];omega);have i0:=decode_le ⟨s.toArray⟩ pos;have r:Ext w (wr.iterAt w.heap.size ⟨s.toArray⟩ (pos+(Utf8.decode ⟨s.toArray⟩ pos).2)):=Lib.below_iterAt O (ι _) ⟨s.toArray⟩ _;obtain⟨ri,a0⟩: ∃ri:Int,((Utf8.decode ⟨s.toArray⟩ pos).1:Int)=ri:=⟨_,rfl⟩
     rw[a0] at d;have k0:128<=ri:=by omega
     generalize wr.iterAt w.heap.size ⟨s.toArray⟩ (pos+(Utf8.decode ⟨s.toArray⟩ pos).2)=W1 at d r;have x:=η r;have C:=η (q4g (l:=s) (.inr (.inr (.inr (q5X V.o (by rw[Bool.eq_false_iff];intro h;have:=(q2E u).1 h;omega))))));have d4:decide (ri<(48:Int))=false:=ε (by omega);have d5:decide ((57:Int)<ri)=true:=ζ (by omega);clear I O r F B hu hd i0 a0 ha k0;go_wp2_with fail;go_ret;exact⟨by rw[C.o];rfl,x.o⟩
   ·obtain rfl:pos=s.length:=by omega
    have d: ∀ty,(Instr.next (.pointer (some ⟨w.heap.size,0,none⟩)) true ty).run Tryz.prog wr=_:=fun ty=>Lib.run_next_end_at wr w.heap.size ⟨s.toArray⟩ s.length ty I (by simp[ByteArray.size])
    have b0:s.take s.length=s:=List.take_length;have j:=U.o;rw[b0] at j
    have C:Hd (y0D s=(m:Int)):=η (by
     rw[j.2];refine z5f ?_;rintro(h|h|h|h)
     ·exact o0.o h
     ·have:=e0.o;omega
     ·exact HZ.o h
     ·rw[j.1] at h;cases h)
    clear b0 j I F O;go_wp2_with fail;go_ret;exact⟨by rw[C.o];rfl,HX.o⟩
theorem y3C(s:List UInt8)(w:World):Calls Tryz.prog 223 #[.string ⟨s.toArray⟩,.int .u8 58] w fun e w'=>e= .returned (.int .i64 (Lib.indexByte s 58))/\w'=w:=Any.stringslite_IndexByte Tryz.idx217 ⟨s.toArray⟩ 58 w
theorem z5U : ∀{s:List UInt8},58∉s->Lib.indexByte s 58= -1
 |[],_=>rfl
 | b::l,h=>by
  have d:(b==58)=false:=beq_eq_false_iff_ne.2 fun e=>h (by rw[e];exact .head _)
  have i:=z5U (s:=l) fun e=>h (.tail _ e)
  unfold Lib.indexByte;rw[d,i];rfl
theorem z2h : ∀{s:List UInt8},58∈s->Lib.indexByte s 58=((s.takeWhile (· !=58)).length:Int)/\(s.takeWhile (· !=58)).length<s.length
 |[],h=>by cases h
 | b ::l,h=>by
  by_cases e:b=58
  ·subst e;unfold Lib.indexByte;simp
  ·have d:(b==58)=false:=beq_eq_false_iff_ne.2 e
   have m:(b !=58)=true:=by simpa using e
   obtain⟨i,o⟩:=z2h (s:=l) (by rcases List.mem_cons.1 h with h|h;exact absurd h.symm e;exact h);rw[List.takeWhile_cons,m];simp only[if_true,χ];refine⟨?_,by omega⟩;unfold Lib.indexByte;rw[d,i];have j:(((l.takeWhile (· !=58)).length:Int)== -1)=false:=beq_eq_false_iff_ne.2 (by omega);rw[j];simp
theorem y3x(s:List UInt8):s.take (s.takeWhile (· !=58)).length=s.takeWhile (· !=58):=by
 conv=>lhs;arg 2;rw[<-List.takeWhile_append_dropWhile (p:=(· !=58)) (l:=s)]
 exact List.take_left
theorem y3w(s:List UInt8):s.drop ((s.takeWhile (· !=58)).length+1)=(s.dropWhile (· !=58)).tail:=by
 rw[<-List.drop_drop,<-List.drop_one]
 congr 1
 conv=>lhs;arg 2;rw[<-List.takeWhile_append_dropWhile (p:=(· !=58)) (l:=s)]
 exact List.drop_left
def y5j(s:List UInt8)(w:World)(e:Ending)(w':World):Prop:=Ext w w'/\
  ((58∉s/\e= .returned (.tuple #[.string ⟨s.toArray⟩,.string ⟨#[]⟩,.bool false]))\/(58∈s/\e= .returned (.tuple #[.string ⟨(s.takeWhile (· !=58)).toArray⟩,.string ⟨((s.dropWhile (· !=58)).tail).toArray⟩,.bool true])))
theorem z8g(s:List UInt8)(w:World):Calls Tryz.prog 173 #[.string ⟨s.toArray⟩,.string ⟨#[58]⟩] w fun e w'=>e= .returned (.int .i64 (Lib.indexByte s 58))/\w'=w:=by
 have b:=η (fun W=>y3C s W);by_cases h:[58]=s
 ·subst h
  go_enter Tryz.func173,Tryz.ntmps173;go_wp2_with fail;go_ret;exact⟨rfl,rfl⟩
 ·have d:([58]==s)=false:=beq_eq_false_iff_ne.2 h
  clear h;generalize Lib.indexByte s 58=k at*;go_enter Tryz.func173,Tryz.ntmps173;go_wp2_with fail;refine(b.o _).mono ?_;rintro e w1 ⟨rfl,rfl⟩;go_wp2_with fail;go_ret;exact⟨rfl,rfl⟩
theorem y1L(s:List UInt8)(D:s.length<=4611686018427387903)(w:World):Calls Tryz.prog 115 #[.string ⟨s.toArray⟩,.string ⟨#[58]⟩] w (y5j s w):=by
 have b:=η (fun W=>z8g s W);by_cases hm:58∈s
 ·obtain⟨q,r⟩:=z2h hm
  have j:=y3x s;have m:=y3w s;rw[q] at b;have d:=η hm;unfold y5j;generalize s.takeWhile (· !=58)=A at*;generalize (s.dropWhile (· !=58)).tail=B at*;obtain⟨k,u⟩: ∃k,A.length=k:=⟨_,rfl⟩
  rw[u] at r j m b;have C:decide ((0:Int)<=(k:Int))=true:=ζ (by omega);have E:IntKind.i64.wrap ((k:Int)+1)=(k:Int)+1:=by rw[ν];omega
  have y:=η j;have x:=η m;have F:k<=s.length:=by omega
  have G:k+1<=s.length:=by omega
  clear hm q j m u r;go_enter Tryz.func115,Tryz.ntmps115;go_wp2_with fail;refine(b.o _).mono ?_;rintro e w1 ⟨rfl,rfl⟩;go_wp2_with fail;refine q0E (by kernel_rfl) (by kernel_rfl) ?_
  repeat (go_big_quiet_step (fail))
  refine wpQuiet_nil ?_;intro I v;have i:=η v;clear v;go_wp2_with fail;go_ret3;exact⟨i.o,.inr ⟨d.o,by rw[<-y.o,<-x.o];rfl⟩⟩
 ·rw[z5U hm] at b
  have d:=η hm;clear hm;go_enter Tryz.func115,Tryz.ntmps115;go_wp2_with fail;refine(b.o _).mono ?_;rintro e w1 ⟨rfl,rfl⟩;go_wp2_with fail;go_ret3;exact⟨Ext.refl _,.inl ⟨d.o,rfl⟩⟩
theorem y2p(s:List UInt8)(m:s.length<=4611686018427387903)(w:World):Calls Tryz.prog 68 #[.string ⟨s.toArray⟩,.string ⟨#[58]⟩] w (y5j s w):=by
 have b:=η (y1L s m w);go_enter Tryz.func68,Tryz.ntmps68;go_wp2_with fail;refine b.o.mono ?_;rintro e w1 ⟨j,⟨hm,rfl⟩|⟨hm,rfl⟩⟩
 all_goals
  have i:=η j;have d:=η hm;clear j hm b;go_wp2_with fail;go_ret3
  first
   |exact⟨i.o,.inl ⟨d.o,rfl⟩⟩
   |exact⟨i.o,.inr ⟨d.o,rfl⟩⟩
end
end Go.Proofs.YtjlcdfpbllobaaaGreatDoor
