/- Plain laws. -/
import Derived.Test.YthdekbmdkpcooaaGreatDoorG3CH
import Derived.Lib.ItoaNum
import Derived.Shelf.Strconv.Itoa3
import Derived.Shelf.Strings.Search1
import Derived.Test.YthdekbmdkpcooaaGreatDoorG7CH
import Derived.Lib.AppendIntMem
import Derived.Lib.OthersKept
set_option linter.unusedVariables false
set_option linter.unusedSimpArgs false
set_option maxRecDepth 100000
set_option maxHeartbeats 6400000
namespace Go.Proofs.YthdekbmdkpcooaaGreatDoor
variable {n:Nat}
section
open Go.RowKit
theorem y3m{l:List UInt8}(h:l.all q0t=true)(i:l≠[])(m:l.getD 0 0≠48):1<=unD l:=by
 cases l with
 |nil=>exact absurd rfl i
 | cons b t=>
  rw[z1n];have d:q0t b=true:=by rw[List.all_cons,Ξ] at h;exact h.1
  unfold q0t at d;rw[Ξ,decide_eq_true_iff,decide_eq_true_iff] at d;have o:b.toNat≠48:=fun e=>m (by show b=48;exact UInt8.toNat_inj.1 e)
  have j:1<=10^t.length:=Nat.one_le_pow _ _ (by decide);have:1*1<=(b.toNat-48)*10^t.length:=Nat.mul_le_mul (by omega) j;omega
theorem y2a(l :List UInt8):l.all q0t=true->l≠[]->(l.length=1\/l.getD 0 0≠48)->Lib.decDigits (unD l)=l:=by
 have H : ∀ n,∀l:List UInt8,l.length=n->l.all q0t=true->l≠[]->(l.length=1\/l.getD 0 0≠48)->Lib.decDigits (unD l)=l:=fun n=>by
  induction n with
  |zero=>intro l r _ q;exact absurd (List.length_eq_zero_iff.1 r) q
  | succ n ih=>
   intro l r o q j;rcases List.eq_nil_or_concat l with e|⟨t,b,e⟩
   ·exact absurd e q
   ·rw [List.concat_eq_append] at e
    subst e;rw[θ,List.length_singleton] at r;rw[List.all_append,Ξ] at o;have s:q0t b=true:=by have:=o.2;rw[List.all_cons,Ξ] at this;exact this.1
    unfold q0t at s;rw[Ξ,decide_eq_true_iff,decide_eq_true_iff] at s;have d:UInt8.ofNat (48+(b.toNat-48))=b:=by
     rw[show 48+(b.toNat-48)=b.toNat by omega];exact UInt8.ofNat_toNat
    rw[z6A];by_cases i:t=[]
    ·subst i
     rw[show unD []*10+(b.toNat-48)=b.toNat-48 by simp[unD],Lib.decDigits_one (by omega),d];rfl
    ·have m:t.getD 0 0≠48:=by
      rcases j with j|j
      ·rw[θ,List.length_singleton] at j
       exact absurd (List.length_eq_zero_iff.1 (by omega)) i
      ·cases t with
       |nil=>exact absurd rfl i
       |cons a t=>exact j
     have u:=y3m o.1 i m;rw[Lib.decDigits,dif_neg (by omega),show(unD t*10+(b.toNat-48))/10=unD t by omega,ih t (by omega) o.1 i (.inr m),show(unD t*10+(b.toNat-48)) % 10=b.toNat-48 by omega,d]
 exact H l.length l rfl
theorem z7l(h:n<10000000000):(Lib.decDigits n).length<=10:=by
 have H : ∀k n:Nat,n<10^(k+1)->(Lib.decDigits n).length<=k+1:=fun k=>by
  induction k with
  |zero=>intro n b;rw[Lib.decDigits_one (by simpa using b)];simp
  | succ k ih=>
   intro n b;by_cases h:n<10
   ·rw[Lib.decDigits_one h];simp
   ·rw[Lib.decDigits,dif_neg h,θ,List.length_singleton]
    have:=ih (n/10) (by rw[Nat.pow_succ] at b;omega);omega
 exact H 9 n (by simpa using h)
structure Cur where
 st:List UInt8
 nx:Int
 dn:Bool
deriving DecidableEq
abbrev z0D :Cur:=⟨[],0,false⟩
def q5q(c:Cur):Bool:=q1W c.st&&decide (c.nx<=1073741824)&&(decide (0<=c.nx)||(c.dn&&decide (c.nx= -1)))
def y2I(d:Bool):UInt8:=if d then 98 else 102
def y4u(c:Cur):List UInt8:=y2I c.dn::(Lib.decDigits (c.nx+1).toNat++58::c.st)
theorem q5E{c:Cur}(h:q5q c=true):q1W c.st=true/\ -1<=c.nx/\c.nx<=1073741824:=by
 unfold q5q at h;simp only[Ξ,Bool.or_eq_true,decide_eq_true_iff] at h;refine⟨h.1.1,?_,h.1.2⟩;rcases h.2 with h|h<;>omega
def z7J(l:List UInt8):Option Nat:=if l=[]\/10<l.length\/(1<l.length/\l.getD 0 0=48)\/l.all q0t=false then none else some (unD l)
def q5g(s:List UInt8):Option Cur:=
 if 58∉s then none else match s.takeWhile (· !=58) with
 |[]=>none
 | h::ds=>if h≠102/\h≠98 then none else match z7J ds with
  |none=>none
  |some n=>if q5q ⟨(s.dropWhile (· !=58)).drop 1,(n:Int)-1,h==98⟩=true then some ⟨(s.dropWhile (· !=58)).drop 1,(n:Int)-1,h==98⟩ else none
theorem z8v{l:List UInt8}(h:z7J l=some n):l≠[]/\l.length<=10/\l.all q0t=true/\n=unD l/\Lib.decDigits n=l:=by
 unfold z7J at h
 split at h
 ·cases h
 ·rename_i b
  cases h;have d:l≠[]:=fun e=>b (.inl e)
  have i:l.all q0t=true:=by cases hd:l.all q0t;exact absurd (.inr (.inr (.inr hd))) b;rfl
  have m:l.length=1\/l.getD 0 0≠48:=by
   by_cases e:l.getD 0 0=48
   ·left
    have:¬1<l.length:=fun j=>b (.inr (.inr (.inl ⟨j,e⟩)))
    have:=List.length_pos_iff.2 d;omega
   ·exact .inr e
  exact⟨d,by have:¬10<l.length:=fun e=>b (.inr (.inl e));omega,i,rfl,y2a l i d m⟩
end
end Go.Proofs.YthdekbmdkpcooaaGreatDoor
namespace Go.Proofs
open Go.Shelf
def Tryz.itoa171_ren :Go.Shelf.Ren:=⟨fun|171=>52|243=>97|246=>145|283=>192|284=>193|285=>194|286=>195|129=>231|317=>230|318=>232|319=>233|320=>234|337=>268|338=>269|n=>n,fun|3=>3|9=>9|2=>2|4=>4|171=>280|0=>0|53=>23|37=>154|5=>5|173=>283|212=>319|51=>271|20=>20|213=>320|46=>198|232=>367|233=>368|n=>n,fun|17=>2|18=>3|19=>4|n=>n⟩
theorem Tryz.itoa171 :Go.Proofs.LaysM.n171 Tryz.prog Tryz.itoa171_ren:={
 mixed:=by kernel_rfl
 f129:=Tryz.func231.trans (congrArg some (by kernel_rfl))
 f171:=Tryz.func52.trans (congrArg some (by kernel_rfl))
 f243:=Tryz.func97.trans (congrArg some (by kernel_rfl))
 f246:=Tryz.func145.trans (congrArg some (by kernel_rfl))
 f283:=Tryz.func192.trans (congrArg some (by kernel_rfl))
 f284:=Tryz.func193.trans (congrArg some (by kernel_rfl))
 f285:=Tryz.func194.trans (congrArg some (by kernel_rfl))
 f286:=Tryz.func195.trans (congrArg some (by kernel_rfl))
 f317:=Tryz.func230.trans (congrArg some (by kernel_rfl))
 f318:=Tryz.func232.trans (congrArg some (by kernel_rfl))
 f319:=Tryz.func233.trans (congrArg some (by kernel_rfl))
 f320:=Tryz.func234.trans (congrArg some (by kernel_rfl))
 f337:=Tryz.func268.trans (congrArg some (by kernel_rfl))
 f338:=Tryz.func269.trans (congrArg some (by kernel_rfl))
 t0:=Tryz.underlying0
 a0:=Tryz.isAgg0
 z0:=Tryz.sizeOf0
 v0:=Tryz.zeroValue0
 t2:=Tryz.underlying2
 a2:=Tryz.isAgg2
 z2:=Tryz.sizeOf2
 v2:=Tryz.zeroValue2
 t3:=Tryz.underlying3
 a3:=Tryz.isAgg3
 z3:=Tryz.sizeOf3
 v3:=Tryz.zeroValue3
 t4:=Tryz.underlying4
 a4:=Tryz.isAgg4
 z4:=Tryz.sizeOf4
 v4:=Tryz.zeroValue4
 t5:=Tryz.underlying5
 a5:=Tryz.isAgg5
 z5:=Tryz.sizeOf5
 v5:=Tryz.zeroValue5
 t9:=Tryz.underlying9
 a9:=Tryz.isAgg9
 z9:=Tryz.sizeOf9
 v9:=Tryz.zeroValue9
 t20:=Tryz.underlying20
 a20:=Tryz.isAgg20
 z20:=Tryz.sizeOf20
 v20:=Tryz.zeroValue20
 t37:=Tryz.underlying154
 a37:=Tryz.isAgg154
 z37:=Tryz.sizeOf154
 v37:=Tryz.zeroValue154
 t46:=Tryz.underlying198
 a46:=Tryz.isAgg198
 z46:=Tryz.sizeOf198
 v46:=Tryz.zeroValue198
 t51:=Tryz.underlying271
 a51:=Tryz.isAgg271
 z51:=Tryz.sizeOf271
 v51:=Tryz.zeroValue271
 t53:=Tryz.underlying23
 a53:=Tryz.isAgg23
 z53:=Tryz.sizeOf23
 v53:=Tryz.zeroValue23
 t171:=Tryz.underlying280
 a171:=Tryz.isAgg280
 z171:=Tryz.sizeOf280
 v171:=Tryz.zeroValue280
 t173:=Tryz.underlying283
 a173:=Tryz.isAgg283
 z173:=Tryz.sizeOf283
 v173:=Tryz.zeroValue283
 t212:=Tryz.underlying319
 a212:=Tryz.isAgg319
 z212:=Tryz.sizeOf319
 v212:=Tryz.zeroValue319
 t213:=Tryz.underlying320
 a213:=Tryz.isAgg320
 z213:=Tryz.sizeOf320
 t232:=Tryz.underlying367
 a232:=Tryz.isAgg367
 z232:=Tryz.sizeOf367
 v232:=Tryz.zeroValue367
 t233:=Tryz.underlying368
 a233:=Tryz.isAgg368
 z233:=Tryz.sizeOf368
 v233:=Tryz.zeroValue368
 g17:=by kernel_rfl
 g18:=by kernel_rfl
 g19:=by kernel_rfl
 i0:=by kernel_rfl
 i2:=by kernel_rfl
 i3:=by kernel_rfl
 i4:=by kernel_rfl
 i5:=by kernel_rfl
 i9:=by kernel_rfl
 i20:=by kernel_rfl
 i37:=by kernel_rfl
 i46:=by kernel_rfl
 i51:=by kernel_rfl
 i53:=by kernel_rfl
 i171:=by kernel_rfl
 i173:=by kernel_rfl
 i212:=by kernel_rfl
 i232:=by kernel_rfl
 i233:=by kernel_rfl
 m17:=by kernel_rfl
 m18:=by kernel_rfl
 m19:=by kernel_rfl}
def Tryz.idx217_ren :Go.Shelf.Ren:=⟨fun|217=>196|266=>235|n=>n,fun|9=>9|5=>5|3=>3|n=>n,fun|n=>n⟩
theorem Tryz.idx217 :Go.Proofs.Lays.n217 Tryz.prog Tryz.idx217_ren:={
 mixed:=by kernel_rfl
 f217:=Tryz.func196.trans (congrArg some (by kernel_rfl))
 f266:=Tryz.func235.trans (congrArg some (by kernel_rfl))
 t3:=Tryz.underlying3
 a3:=Tryz.isAgg3
 z3:=Tryz.sizeOf3
 v3:=Tryz.zeroValue3
 t5:=Tryz.underlying5
 a5:=Tryz.isAgg5
 z5:=Tryz.sizeOf5
 v5:=Tryz.zeroValue5
 t9:=Tryz.underlying9
 a9:=Tryz.isAgg9
 z9:=Tryz.sizeOf9
 v9:=Tryz.zeroValue9}
end Go.Proofs
namespace Go.Proofs.YthdekbmdkpcooaaGreatDoor
variable {l:List UInt8}
section
open Go.RowKit
abbrev z7k(c:Cur):Value:= .agg #[.string ⟨c.st.toArray⟩,.int .i64 c.nx,.bool c.dn]
theorem q4E(st:List UInt8)(nx:Int)(dn:Bool):q5q ⟨st,nx,dn⟩=true↔q1W st=true/\nx<=1073741824/\(0<=nx\/(dn=true/\nx= -1)):=by
 unfold q5q;simp only[Ξ,Bool.or_eq_true,decide_eq_true_iff];exact⟨fun h=>⟨h.1.1,h.1.2,h.2⟩,fun h=>⟨⟨h.1,h.2.1⟩,h.2.2⟩⟩
theorem q7x(c:Cur)(s:c.st.length<=9223372036854775807)(w:World):Calls Tryz.prog 51 #[z7k c] w fun e w'=>e= .returned (.int .i64 (if q5q c=true then 0 else 2))/\Ext w w':=by
 obtain⟨st,nx,dn⟩:=c;simp only at s;have r:=η (fun W=>z1j st W s);have d:=q0B w (.cells #[.string ⟨st.toArray⟩,.int .i64 nx,.bool dn] 63);have u:=η d;have q:=η (Blk.new w 63 #[.string ⟨st.toArray⟩,.int .i64 nx,.bool dn]);obtain⟨z,i⟩: ∃z,(if q5q ⟨st,nx,dn⟩=true then(0:Int) else 2)=z:=⟨_,rfl⟩
 have v:Hd (q1W st=true/\nx<=1073741824/\(0<=nx\/(dn=true/\nx= -1))->z=0):=η fun h=>by rw[<-i,ξ ((q4E st nx dn).2 h)]
 have b:Hd (¬(q1W st=true/\nx<=1073741824/\(0<=nx\/(dn=true/\nx= -1)))->z=2):=η fun h=>by rw[<-i,κ fun e=>h ((q4E st nx dn).1 e)]
 rw[i];clear d i;generalize q1W st=sb at*;go_enter Tryz.func51,Tryz.ntmps51
 cases dn
 all_goals
  go_wp2_with fail;refine(r.o _).mono ?_;rintro e w1 ⟨rfl,m⟩;have k1:=(q.o.ext m).cell 1;have j:=η (u.o.trans m);clear m r q
  cases sb
  all_goals
   go_wp2_with fail
   all_goals
    go_ret;refine⟨?_,j.o⟩
    first
     |rw[b.o (by rintro⟨x,_,_⟩;simp at x;done)];rfl
     |rw[b.o (by rintro⟨_,B,y⟩;(try simp at y);omega)];rfl
     |rw[v.o ⟨by simp,by omega,by simp;omega⟩];rfl
theorem y3C(c:Cur)(B:c.st.length<=9223372036854775807)(w:World):Calls Tryz.prog 53 #[z7k c] w fun e w'=>e= .returned (.bool (q5q c))/\Ext w w':=by
 obtain⟨st,nx,dn⟩:=c;simp only at B;have x:=η (fun W=>z4O st W B);have r:=q0B w (.cells #[.string ⟨st.toArray⟩,.int .i64 nx,.bool dn] 67);have C:=η r;have v:=η (Blk.new w 67 #[.string ⟨st.toArray⟩,.int .i64 nx,.bool dn]);obtain⟨z,u⟩: ∃z,q5q ⟨st,nx,dn⟩=z:=⟨_,rfl⟩
 have y:Hd (q1W st=true/\nx<=1073741824/\(0<=nx\/(dn=true/\nx= -1))->z=true):=η fun h=>by rw[<-u,(q4E st nx dn).2 h]
 have j:Hd (¬(q1W st=true/\nx<=1073741824/\(0<=nx\/(dn=true/\nx= -1)))->z=false):=η fun h=>by rw[<-u,Bool.eq_false_iff];exact fun e=>h ((q4E st nx dn).1 e)
 rw[u];clear r u;generalize q1W st=sb at*;go_enter Tryz.func53,Tryz.ntmps53;go_wp2_with fail;refine(x.o _).mono ?_;rintro e w1 ⟨rfl,s⟩;have k1:=(v.o.ext s).cell 1;have G:=(v.o.ext s).cell 2;have d:=η (C.o.trans s);clear s x v
 cases sb
 ·go_wp2_with fail
  go_ret;exact⟨by rw[j.o (fun h=>by cases h.1)];rfl,d.o⟩
 by_cases i:nx<=1073741824
 ·have D:decide (nx<=(1073741824:Int))=true:=ζ i
  by_cases m:0<=nx
  ·have E:decide ((0:Int)<=nx)=true:=ζ m
   have b:=η (y.o ⟨rfl,i,.inl m⟩);clear i m;go_wp2_with fail;go_ret;exact⟨by rw[b.o];rfl,d.o⟩
  ·have E:decide ((0:Int)<=nx)=false:=ε m
   cases dn
   ·have b:=η (j.o fun h=>by rcases h.2.2 with h|⟨h,_⟩;exact m h;cases h)
    clear i m;go_wp2_with fail;go_ret;exact⟨by rw[b.o];rfl,d.o⟩
   ·by_cases q:nx= -1
    ·have F:(nx==(-1:Int))=true:=by rw[q];rfl
     have b:=η (y.o ⟨rfl,i,.inr ⟨rfl,q⟩⟩);clear i m q;go_wp2_with fail;go_ret;exact⟨by rw[b.o];rfl,d.o⟩
    ·have F:(nx==(-1:Int))=false:=by simpa using q
     have b:=η (j.o fun h=>by rcases h.2.2 with h|⟨_,h⟩;exact m h;exact q h);clear i m q;go_wp2_with fail;go_ret;exact⟨by rw[b.o];rfl,d.o⟩
 ·have D:decide (nx<=(1073741824:Int))=false:=ε i
  have b:=η (j.o fun h=>i h.2.1);clear i;go_wp2_with fail;go_ret;exact⟨by rw[b.o];rfl,d.o⟩
abbrev TabW(w:World):Prop:=Lib.TabIs Tryz.prog w "internal/strconv.uint64pow10" .u64 Lib.pow10Tab
theorem TabW.ext{w w':World}(h:TabW w)(k:Ext w w'):TabW w':=Lib.tabBelow_of_tabIs h w' k
theorem y4Q(n:Nat)(j:n<=1073741825)(w:World)(d:TabW w):Calls Tryz.prog 52 #[.int .i64 (n:Int)] w fun e w'=>e= .returned (.string ⟨(Lib.decDigits n).toArray⟩)/\Ext w w':=by
 refine(Any.strconv_Itoa Tryz.itoa171 (n:Int) (by omega) (by omega) w d).mono ?_;rintro e w' ⟨rfl,k,os,rfl⟩;refine⟨by rw[Lib.itoa_nonneg],?_⟩;exact(Ext.refl _).drewN k|>.trans ⟨rfl,rfl,rfl,by show(w.drewN k).heap.size<=((w.drewN k).heap++os).size;rw[Array.size_append];omega,fun i b=>Array.getElem?_append_left b⟩
def y4v(c:Cur):List UInt8:=if q5q c=true then y4u c else []
theorem z3w{c:Cur}(h:q5q c=true):c.st.length<=32:=by
 have:=(q5E h).1;unfold q1W at this;rw[Ξ,decide_eq_true_iff,decide_eq_true_iff] at this;exact this.2
theorem y4G(c:Cur)(F:c.st.length<=9223372036854775807)(w:World)(I:TabW w):Calls Tryz.prog 20 #[z7k c] w fun e w'=>e= .returned (.tuple #[.string ⟨(y4v c).toArray⟩,.int .i64 (if q5q c=true then 0 else 2)])/\Ext w w':=by
 have u:=η (fun W=>q7x c F W);have i:=@z3w c;have b:=@q5E c;have r:Hd (y4v c=if q5q c=true then y2I c.dn::(Lib.decDigits (c.nx+1).toNat++58::c.st) else []):=η rfl;obtain⟨st,nx,dn⟩:=c;have q:=q0B w (.cells #[.string ⟨st.toArray⟩,.int .i64 nx,.bool dn] 63);have O:=η q;have E:=η (Blk.new w 63 #[.string ⟨st.toArray⟩,.int .i64 nx,.bool dn]);have N:=η I;simp only at F i b;obtain⟨m,hm⟩: ∃m,q5q ⟨st,nx,dn⟩=m:=⟨_,rfl⟩
 rw[hm] at u r i b⊢;clear q I hm;generalize y4v ⟨st,nx,dn⟩=R at*;go_enter Tryz.func20,Tryz.ntmps20;go_wp2_with fail;refine(u.o _).mono ?_;rintro e w1 ⟨rfl,C⟩;have d:=E.o.ext C;have k0:=d.cell 0;have k1:=d.cell 1;have Y:=d.cell 2;have j:=η (O.o.trans C);clear C u E d
 cases m with
 | false=>
  have s:Hd (R=[]):=r.o;go_wp2_with fail;go_ret2;exact⟨by rw[s.o];rfl,j.o⟩
 | true=>
  have G:=i rfl;obtain⟨_,y,B⟩:=b rfl;obtain⟨n,Q⟩: ∃n:Nat,nx+1=(n:Int):=⟨(nx+1).toNat,by omega⟩
  have Z:IntKind.i64.wrap (nx+1)=(n:Int):=by rw[ν];omega
  have M:=η (fun x:ExtOf w1=>y4Q n (by omega) x.w' (N.o.ext (j.o.trans x.h)));have X:(Lib.decDigits n).length<=10:=z7l (by omega);have s:Hd (R=y2I dn::(Lib.decDigits n++58::st)):=η (by have:=r.o;rw[ξ rfl] at this;refine this.trans ?_;show y2I dn::(Lib.decDigits (nx+1).toNat++58::st)=_;rw[show(nx+1).toNat=n by omega]);generalize Lib.decDigits n=D at*;have u0:=q0D k0;have u1:=q0D k1;have S:¬(9223372036854775807<[y2I dn].length+D.length):=by simp;omega
  have U:¬(9223372036854775807<([y2I dn]++D).length+[(58:UInt8)].length):=by simp;omega
  have V:¬(9223372036854775807<(([y2I dn]++D)++[(58:UInt8)]).length+st.length):=by simp;omega
  clear i b y B r Q k0 k1
  cases dn
  all_goals
   simp only[y2I,Bool.false_eq_true,if_false,if_true] at S U V s;go_wp2_with fail;refine q0E (by kernel_rfl) (by kernel_rfl) ?_
   repeat (go_big_quiet_step (fail))
   go_big_quiet_step (exact Calls.quiet_ext (M.o _))
   repeat (go_big_quiet_step (fail))
   refine wpQuiet_nil ?_;intro w3 J;have v:=η (j.o.trans J);clear J;go_wp2_with fail;go_ret2;exact⟨by rw[s.o];simp[q2P],v.o⟩
def z9s(l:List UInt8):Int:=match z7J l with|some n=>(n:Int)|none=> -1
theorem q4e(h:l=[]\/10<l.length\/(1<l.length/\l.getD 0 0=48)\/l.all q0t=false):z9s l= -1:=by
 unfold z9s z7J;rw[ξ h]
theorem z5Y(h:¬(l=[]\/10<l.length\/(1<l.length/\l.getD 0 0=48)\/l.all q0t=false)):z9s l=(unD l:Int):=by
 unfold z9s z7J;rw[κ h]
theorem y1I(s:List UInt8)(hs:s.length<=9223372036854775807)(w:World):Calls Tryz.prog 56 #[.string ⟨s.toArray⟩] w fun e w'=>e= .returned (.int .i64 (z9s s))/\Ext w w':=by
 by_cases h0:s=[]
 ·have C:=η (q4e (l:=s) (.inl h0))
  have d0:(s==[])=true:=by rw[h0];rfl
  clear h0;go_enter Tryz.func56,Tryz.ntmps56;go_wp2_with fail;go_ret;exact⟨by rw[C.o];rfl,Ext.refl _⟩
 have d0:(s==[])=false:=by simpa using h0
 by_cases h1:10<s.length
 ·have C:=η (q4e (l:=s) (.inr (.inl h1)))
  have d1:decide ((10:Int)<(s.length:Int))=true:=ζ (by omega);clear h0 h1;go_enter Tryz.func56,Tryz.ntmps56;go_wp2_with fail;go_ret;exact⟨by rw[C.o];rfl,Ext.refl _⟩
 have d1:decide ((10:Int)<(s.length:Int))=false:=ε (by omega);have hp:0<s.length:=List.length_pos_iff.2 h0;obtain⟨c,hc⟩: ∃c,s[0]? =some c:=⟨_,γ hp⟩
 have q0:s.getD 0 0=c:=by rw[δ,hc];rfl
 have v0:=z6F hc;have hz:(1<s.length/\c=48)\/(1<s.length/\c≠48)\/¬1<s.length:=by
  by_cases a:1<s.length
  ·by_cases b:c=48
   ·exact .inl ⟨a,b⟩
   ·exact .inr (.inl ⟨a,b⟩)
  ·exact .inr (.inr a)
 have o0:=η h0;have e0:Hd (s.length<=10):=η (by omega);have m0:=η q0;clear hc q0 h0 h1;obtain⟨q,hq⟩: ∃q,w.heap.size=q:=⟨_,rfl⟩
 rcases hz with⟨Q,R⟩|hz
 ·have C:=η (q4e (l:=s) (.inr (.inr (.inl ⟨Q,by rw[m0.o];exact R⟩))))
  have d2:decide ((1:Int)<(s.length:Int))=true:=ζ (by omega);have d3:((c.toNat:Int)==48)=true:=by rw[R];rfl
  clear Q R;go_enter Tryz.func56,Tryz.ntmps56;go_wp2_with fail;go_ret;exact⟨by rw[C.o];rfl,Ext.refl _⟩
 have HZ:Hd (¬(1<s.length/\s.getD 0 0=48)):=η fun h=>by
  rcases hz with⟨_,h2⟩|h2
  ·exact h2 (by rw[<-m0.o];exact h.2)
  ·exact h2 h.1
 have r0:(w.iter ⟨s.toArray⟩ 0).heap[w.heap.size]? =some (.stringIter ⟨s.toArray⟩ 0):=World.iter_heap w ⟨s.toArray⟩ 0;have p0:Ext w (w.iter ⟨s.toArray⟩ 0):=(Ext.refl w).alloc _;have n0:=η r0;have l0:=η p0;clear r0 p0 hq q;rcases hz with⟨Q,R⟩|Q
 ·have d2 :decide ((1:Int)<(s.length:Int))=true:=ζ (by omega)
  have d3:((c.toNat:Int)==48)=false:=beq_eq_false_iff_ne.2 fun h=>R (UInt8.toNat_inj.1 (by show c.toNat=48;omega))
  clear Q R;go_enter Tryz.func56,Tryz.ntmps56;go_wp2_with fail
  go_loopw [3] (fun v W=> ∃pos m:Nat,v= .int .i64 (m:Int)/\pos<=s.length/\W.heap[w.heap.size]? =some (.stringIter ⟨s.toArray⟩ pos)/\Hd ((s.take pos).all q0t=true/\m=unD (s.take pos))/\Ext w W) (fun _ W=>s.length-W.iterPos w.heap.size)
  case atStart=>exact⟨0,0,rfl,υ _,n0.o,η ⟨rfl,rfl⟩,l0.o⟩
  case round=>
   obtain⟨pos,m,rfl,t0,I,U,O⟩:=hrel;have HX:=η O;have F:wr.iterPos w.heap.size=pos:=by simp[World.iterPos,I]
   by_cases X:pos<s.length
   ·obtain⟨u,hu⟩: ∃u,s[pos]? =some u:=⟨_,γ X⟩
    have hp:pos<(⟨s.toArray⟩:ByteArray).size:=by simpa [ByteArray.size] using X
    have B:=z6F hu hp;have V:=η hu;have g0:=η F;by_cases ha:u.toNat<128
    ·have d: ∀ty,(Instr.next (.pointer (some ⟨w.heap.size,0,none⟩)) true ty).run Tryz.prog wr=_:=fun ty=>Lib.run_next_ascii_at wr w.heap.size ⟨s.toArray⟩ pos ty I hp (by rw[B];exact ha)
     rw[B] at d;have J:=Lib.iterAt_heap wr w.heap.size ⟨s.toArray⟩ pos (pos+1) I;have r:Ext w (wr.iterAt w.heap.size ⟨s.toArray⟩ (pos+1)):=Lib.below_iterAt O (ι _) ⟨s.toArray⟩ (pos+1);generalize wr.iterAt w.heap.size ⟨s.toArray⟩ (pos+1)=W1 at d J r;have S:=η J;have x:=η r;have j0:m<=9999999999:=by
      have:=z5z _ U.o.1;rw[<-U.o.2] at this;have h2:(s.take pos).length<=10:=by rw[Θ];have:=e0.o;omega
      have h3:10^(s.take pos).length<=10^10:=Nat.pow_le_pow_right (by decide) h2;have h4:(10:Nat)^10=10000000000:=by decide
      omega
     obtain⟨G,M⟩: ∃G:Int,(m:Int)=G:=⟨_,rfl⟩
     obtain⟨i,N⟩: ∃i:Int,(u.toNat:Int)=i:=⟨_,rfl⟩
     rw[N] at d;rw[M];have Y:0<=G/\G<=9999999999:=by omega
     have c0:0<=i/\i<128:=by omega
     have f0:=η M;have D:=η N;clear I O J r F B hu j0 M N ha;obtain⟨Y,s0⟩:=Y;obtain⟨c0,u0⟩:=c0;by_cases y:i<48
     ·have C:=η (q4e (l:=s) (.inr (.inr (.inr (q5Q V.o (by rw[Bool.eq_false_iff];intro h;have:=(q2C u).1 h;have:=D.o;omega))))))
      have d4:decide (i<(48:Int))=true:=ζ y;clear y;go_wp2_with fail;go_ret;exact⟨by rw[C.o];rfl,x.o⟩
     have d4:decide (i<(48:Int))=false:=ε y;by_cases E:57<i
     ·have C:=η (q4e (l:=s) (.inr (.inr (.inr (q5Q V.o (by rw[Bool.eq_false_iff];intro h;have:=(q2C u).1 h;have:=D.o;omega))))))
      have d5:decide ((57:Int)<i)=true:=ζ E;clear y E;go_wp2_with fail;go_ret;exact⟨by rw[C.o];rfl,x.o⟩
     have d5:decide ((57:Int)<i)=false:=ε E;have q1:IntKind.i64.wrap (10*G)=10*G:=by rw[ν];omega
     have q2:IntKind.i32.wrap (i-48)=i-48:=by rw[IntKind.wrap_i32];omega
     have q3:IntKind.i64.wrap (i-48)=i-48:=by rw[ν];omega
     have q4:IntKind.i64.wrap (10*G+(i-48))=10*G+(i-48):=by rw[ν];omega
     have j:Hd ((s.take (pos+1)).all q0t=true/\unD (s.take (pos+1))=unD (s.take pos)*10+(u.toNat-48)):=η ⟨q5k V.o U.o.1 ((q2C u).2 (by have:=D.o;omega)),q4k V.o⟩;have HR:Hd (10*G+(i-48)=((m*10+(u.toNat-48):Nat):Int)):=η (by have:=f0.o;have:=D.o;omega);clear y E;go_wp2_with fail
     go_roundw
     case rel=>exact⟨pos+1,m*10+(u.toNat-48),by rw[HR.o],by omega,S.o,η ⟨j.o.1,by rw[j.o.2,<-U.o.2]⟩,x.o⟩
     case measure=>
      have Z:W1.iterPos w.heap.size=pos+1:=by simp[World.iterPos,S.o]
      rw[g0.o,Z];omega
    ·have d: ∀ty,(Instr.next (.pointer (some ⟨w.heap.size,0,none⟩)) true ty).run Tryz.prog wr=_:=fun ty=>Lib.run_next_any_at wr w.heap.size ⟨s.toArray⟩ pos ty I hp
     have hd:=decode_high ⟨s.toArray⟩ pos hp (by rw[B];omega);have i0:=decode_le ⟨s.toArray⟩ pos;have r:Ext w (wr.iterAt w.heap.size ⟨s.toArray⟩ (pos+(Utf8.decode ⟨s.toArray⟩ pos).2)):=Lib.below_iterAt O (ι _) ⟨s.toArray⟩ _;obtain⟨ri,a0⟩: ∃ri:Int,((Utf8.decode ⟨s.toArray⟩ pos).1:Int)=ri:=⟨_,rfl⟩
     rw[a0] at d;have k0:128<=ri:=by omega
     generalize wr.iterAt w.heap.size ⟨s.toArray⟩ (pos+(Utf8.decode ⟨s.toArray⟩ pos).2)=W1 at d r;have x:=η r;have C:=η (q4e (l:=s) (.inr (.inr (.inr (q5Q V.o (by rw[Bool.eq_false_iff];intro h;have:=(q2C u).1 h;omega))))));have d4:decide (ri<(48:Int))=false:=ε (by omega);have d5:decide ((57:Int)<ri)=true:=ζ (by omega);clear I O r F B hu hd i0 a0 ha k0;go_wp2_with fail;go_ret;exact⟨by rw[C.o];rfl,x.o⟩
   ·obtain rfl:pos=s.length:=by omega
    have d: ∀ty,(Instr.next (.pointer (some ⟨w.heap.size,0,none⟩)) true ty).run Tryz.prog wr=_:=fun ty=>Lib.run_next_end_at wr w.heap.size ⟨s.toArray⟩ s.length ty I (by simp[ByteArray.size])
    have b0:s.take s.length=s:=List.take_length;have j:=U.o;rw[b0] at j
    have C:Hd (z9s s=(m:Int)):=η (by
     rw[j.2];refine z5Y ?_;rintro(h|h|h|h)
     ·exact o0.o h
     ·have:=e0.o;omega
     ·exact HZ.o h
     ·rw[j.1] at h;cases h)
    clear b0 j I F O;go_wp2_with fail;go_ret;exact⟨by rw[C.o];rfl,HX.o⟩
 ·have d2 :decide ((1:Int)<(s.length:Int))=false:=ε (by omega)
  clear Q;go_enter Tryz.func56,Tryz.ntmps56;go_wp2_with fail
  go_loopw [3] (fun v W=> ∃pos m:Nat,v= .int .i64 (m:Int)/\pos<=s.length/\W.heap[w.heap.size]? =some (.stringIter ⟨s.toArray⟩ pos)/\Hd ((s.take pos).all q0t=true/\m=unD (s.take pos))/\Ext w W) (fun _ W=>s.length-W.iterPos w.heap.size)
  case atStart=>exact⟨0,0,rfl,υ _,n0.o,η ⟨rfl,rfl⟩,l0.o⟩
  case round=>
   obtain⟨pos,m,rfl,t0,I,U,O⟩:=hrel;have HX:=η O;have F:wr.iterPos w.heap.size=pos:=by simp[World.iterPos,I]
   by_cases X:pos<s.length
   ·obtain⟨u,hu⟩: ∃u,s[pos]? =some u:=⟨_,γ X⟩
    have hp:pos<(⟨s.toArray⟩:ByteArray).size:=by simpa [ByteArray.size] using X
    have B:=z6F hu hp;have V:=η hu;have g0:=η F;by_cases ha:u.toNat<128
    ·have d: ∀ty,(Instr.next (.pointer (some ⟨w.heap.size,0,none⟩)) true ty).run Tryz.prog wr=_:=fun ty=>Lib.run_next_ascii_at wr w.heap.size ⟨s.toArray⟩ pos ty I hp (by rw[B];exact ha)
     rw[B] at d;have J:=Lib.iterAt_heap wr w.heap.size ⟨s.toArray⟩ pos (pos+1) I;have r:Ext w (wr.iterAt w.heap.size ⟨s.toArray⟩ (pos+1)):=Lib.below_iterAt O (ι _) ⟨s.toArray⟩ (pos+1);generalize wr.iterAt w.heap.size ⟨s.toArray⟩ (pos+1)=W1 at d J r;have S:=η J;have x:=η r;have j0:m<=9999999999:=by
      have:=z5z _ U.o.1;rw[<-U.o.2] at this;have h2:(s.take pos).length<=10:=by rw[Θ];have:=e0.o;omega
      have h3:10^(s.take pos).length<=10^10:=Nat.pow_le_pow_right (by decide) h2;have h4:(10:Nat)^10=10000000000:=by decide
      omega
     obtain⟨G,M⟩: ∃G:Int,(m:Int)=G:=⟨_,rfl⟩
     obtain⟨i,N⟩: ∃i:Int,(u.toNat:Int)=i:=⟨_,rfl⟩
     rw[N] at d;rw[M];have Y:0<=G/\G<=9999999999:=by omega
     have c0:0<=i/\i<128:=by omega
     have f0:=η M;have D:=η N;clear I O J r F B hu j0 M N ha;obtain⟨Y,s0⟩:=Y;obtain⟨c0,u0⟩:=c0;by_cases y:i<48
     ·have C:=η (q4e (l:=s) (.inr (.inr (.inr (q5Q V.o (by rw[Bool.eq_false_iff];intro h;have:=(q2C u).1 h;have:=D.o;omega))))))
      have d4:decide (i<(48:Int))=true:=ζ y;clear y;go_wp2_with fail;go_ret;exact⟨by rw[C.o];rfl,x.o⟩
     have d4:decide (i<(48:Int))=false:=ε y;by_cases E:57<i
     ·have C:=η (q4e (l:=s) (.inr (.inr (.inr (q5Q V.o (by rw[Bool.eq_false_iff];intro h;have:=(q2C u).1 h;have:=D.o;omega))))))
      have d5:decide ((57:Int)<i)=true:=ζ E;clear y E;go_wp2_with fail;go_ret;exact⟨by rw[C.o];rfl,x.o⟩
     have d5:decide ((57:Int)<i)=false:=ε E;have q1:IntKind.i64.wrap (10*G)=10*G:=by rw[ν];omega
     have q2:IntKind.i32.wrap (i-48)=i-48:=by rw[IntKind.wrap_i32];omega
     have q3:IntKind.i64.wrap (i-48)=i-48:=by rw[ν];omega
     have q4:IntKind.i64.wrap (10*G+(i-48))=10*G+(i-48):=by rw[ν];omega
     have j:Hd ((s.take (pos+1)).all q0t=true/\unD (s.take (pos+1))=unD (s.take pos)*10+(u.toNat-48)):=η ⟨q5k V.o U.o.1 ((q2C u).2 (by have:=D.o;omega)),q4k V.o⟩;have HR:Hd (10*G+(i-48)=((m*10+(u.toNat-48):Nat):Int)):=η (by have:=f0.o;have:=D.o;omega);clear y E;go_wp2_with fail
     go_roundw
     case rel=>exact⟨pos+1,m*10+(u.toNat-48),by rw[HR.o],by omega,S.o,η ⟨j.o.1,by rw[j.o.2,<-U.o.2]⟩,x.o⟩
     case measure=>
      have Z:W1.iterPos w.heap.size=pos+1:=by simp[World.iterPos,S.o]
      rw[g0.o,Z];omega
    ·have d: ∀ty,(Instr.next (.pointer (some ⟨w.heap.size,0,none⟩)) true ty).run Tryz.prog wr=_:=fun ty=>Lib.run_next_any_at wr w.heap.size ⟨s.toArray⟩ pos ty I hp
     have hd:=decode_high ⟨s.toArray⟩ pos hp (by rw[B];omega);have i0:=decode_le ⟨s.toArray⟩ pos;have r:Ext w (wr.iterAt w.heap.size ⟨s.toArray⟩ (pos+(Utf8.decode ⟨s.toArray⟩ pos).2)):=Lib.below_iterAt O (ι _) ⟨s.toArray⟩ _;obtain⟨ri,a0⟩: ∃ri:Int,((Utf8.decode ⟨s.toArray⟩ pos).1:Int)=ri:=⟨_,rfl⟩
     rw[a0] at d;have k0:128<=ri:=by omega
     generalize wr.iterAt w.heap.size ⟨s.toArray⟩ (pos+(Utf8.decode ⟨s.toArray⟩ pos).2)=W1 at d r;have x:=η r;have C:=η (q4e (l:=s) (.inr (.inr (.inr (q5Q V.o (by rw[Bool.eq_false_iff];intro h;have:=(q2C u).1 h;omega))))));have d4:decide (ri<(48:Int))=false:=ε (by omega);have d5:decide ((57:Int)<ri)=true:=ζ (by omega);clear I O r F B hu hd i0 a0 ha k0;go_wp2_with fail;go_ret;exact⟨by rw[C.o];rfl,x.o⟩
   ·obtain rfl:pos=s.length:=by omega
    have d: ∀ty,(Instr.next (.pointer (some ⟨w.heap.size,0,none⟩)) true ty).run Tryz.prog wr=_:=fun ty=>Lib.run_next_end_at wr w.heap.size ⟨s.toArray⟩ s.length ty I (by simp[ByteArray.size])
    have b0:s.take s.length=s:=List.take_length;have j:=U.o;rw[b0] at j
    have C:Hd (z9s s=(m:Int)):=η (by
     rw[j.2];refine z5Y ?_;rintro(h|h|h|h)
     ·exact o0.o h
     ·have:=e0.o;omega
     ·exact HZ.o h
     ·rw[j.1] at h;cases h)
    clear b0 j I F O;go_wp2_with fail;go_ret;exact⟨by rw[C.o];rfl,HX.o⟩
theorem y2m(s:List UInt8)(w:World):Calls Tryz.prog 196 #[.string ⟨s.toArray⟩,.int .u8 58] w fun e w'=>e= .returned (.int .i64 (Lib.indexByte s 58))/\w'=w:=Any.stringslite_IndexByte Tryz.idx217 ⟨s.toArray⟩ 58 w
theorem z5N : ∀{s:List UInt8},58∉s->Lib.indexByte s 58= -1
 |[],_=>rfl
 | b::l,h=>by
  have d:(b==58)=false:=beq_eq_false_iff_ne.2 fun e=>h (by rw[e];exact .head _)
  have i:=z5N (s:=l) fun e=>h (.tail _ e)
  unfold Lib.indexByte;rw[d,i];rfl
theorem z2Z : ∀{s:List UInt8},58∈s->Lib.indexByte s 58=((s.takeWhile (· !=58)).length:Int)/\(s.takeWhile (· !=58)).length<s.length
 |[],h=>by cases h
 | b ::l,h=>by
  by_cases e:b=58
  ·subst e;unfold Lib.indexByte;simp
  ·have d:(b==58)=false:=beq_eq_false_iff_ne.2 e
   have m:(b !=58)=true:=by simpa using e
   obtain⟨i,o⟩:=z2Z (s:=l) (by rcases List.mem_cons.1 h with h|h;exact absurd h.symm e;exact h);rw[List.takeWhile_cons,m];simp only[if_true,χ];refine⟨?_,by omega⟩;unfold Lib.indexByte;rw[d,i];have j:(((l.takeWhile (· !=58)).length:Int)== -1)=false:=beq_eq_false_iff_ne.2 (by omega);rw[j];simp
theorem y3l(s:List UInt8):s.take (s.takeWhile (· !=58)).length=s.takeWhile (· !=58):=by
 conv=>lhs;arg 2;rw[<-List.takeWhile_append_dropWhile (p:=(· !=58)) (l:=s)]
 exact List.take_left
theorem y3k(s:List UInt8):s.drop ((s.takeWhile (· !=58)).length+1)=(s.dropWhile (· !=58)).tail:=by
 rw[<-List.drop_drop,<-List.drop_one]
 congr 1
 conv=>lhs;arg 2;rw[<-List.takeWhile_append_dropWhile (p:=(· !=58)) (l:=s)]
 exact List.drop_left
def y5T(s:List UInt8)(w:World)(e:Ending)(w':World):Prop:=Ext w w'/\
  ((58∉s/\e= .returned (.tuple #[.string ⟨s.toArray⟩,.string ⟨#[]⟩,.bool false]))\/(58∈s/\e= .returned (.tuple #[.string ⟨(s.takeWhile (· !=58)).toArray⟩,.string ⟨((s.dropWhile (· !=58)).tail).toArray⟩,.bool true])))
theorem z8Z(s:List UInt8)(w:World):Calls Tryz.prog 146 #[.string ⟨s.toArray⟩,.string ⟨#[58]⟩] w fun e w'=>e= .returned (.int .i64 (Lib.indexByte s 58))/\w'=w:=by
 have b:=η (fun W=>y2m s W);by_cases h:[58]=s
 ·subst h
  go_enter Tryz.func146,Tryz.ntmps146;go_wp2_with fail;go_ret;exact⟨rfl,rfl⟩
 ·have d:([58]==s)=false:=beq_eq_false_iff_ne.2 h
  clear h;generalize Lib.indexByte s 58=k at*;go_enter Tryz.func146,Tryz.ntmps146;go_wp2_with fail;refine(b.o _).mono ?_;rintro e w1 ⟨rfl,rfl⟩;go_wp2_with fail;go_ret;exact⟨rfl,rfl⟩
theorem y0y(s:List UInt8)(D:s.length<=4611686018427387903)(w:World):Calls Tryz.prog 98 #[.string ⟨s.toArray⟩,.string ⟨#[58]⟩] w (y5T s w):=by
 have b:=η (fun W=>z8Z s W);by_cases hm:58∈s
 ·obtain⟨q,r⟩:=z2Z hm
  have j:=y3l s;have m:=y3k s;rw[q] at b;have d:=η hm;unfold y5T;generalize s.takeWhile (· !=58)=A at*;generalize (s.dropWhile (· !=58)).tail=B at*;obtain⟨k,u⟩: ∃k,A.length=k:=⟨_,rfl⟩
  rw[u] at r j m b;have C:decide ((0:Int)<=(k:Int))=true:=ζ (by omega);have E:IntKind.i64.wrap ((k:Int)+1)=(k:Int)+1:=by rw[ν];omega
  have y:=η j;have x:=η m;have F:k<=s.length:=by omega
  have G:k+1<=s.length:=by omega
  clear hm q j m u r;go_enter Tryz.func98,Tryz.ntmps98;go_wp2_with fail;refine(b.o _).mono ?_;rintro e w1 ⟨rfl,rfl⟩;go_wp2_with fail;refine q0E (by kernel_rfl) (by kernel_rfl) ?_
  repeat (go_big_quiet_step (fail))
  refine wpQuiet_nil ?_;intro I v;have i:=η v;clear v;go_wp2_with fail;go_ret3;exact⟨i.o,.inr ⟨d.o,by rw[<-y.o,<-x.o];rfl⟩⟩
 ·rw[z5N hm] at b
  have d:=η hm;clear hm;go_enter Tryz.func98,Tryz.ntmps98;go_wp2_with fail;refine(b.o _).mono ?_;rintro e w1 ⟨rfl,rfl⟩;go_wp2_with fail;go_ret3;exact⟨Ext.refl _,.inl ⟨d.o,rfl⟩⟩
theorem y2Z(s:List UInt8)(m:s.length<=4611686018427387903)(w:World):Calls Tryz.prog 55 #[.string ⟨s.toArray⟩,.string ⟨#[58]⟩] w (y5T s w):=by
 have b:=η (y0y s m w);go_enter Tryz.func55,Tryz.ntmps55;go_wp2_with fail;refine b.o.mono ?_;rintro e w1 ⟨j,⟨hm,rfl⟩|⟨hm,rfl⟩⟩
 all_goals
  have i:=η j;have d:=η hm;clear j hm b;go_wp2_with fail;go_ret3
  first
   |exact⟨i.o,.inl ⟨d.o,rfl⟩⟩
   |exact⟨i.o,.inr ⟨d.o,rfl⟩⟩
end
end Go.Proofs.YthdekbmdkpcooaaGreatDoor
