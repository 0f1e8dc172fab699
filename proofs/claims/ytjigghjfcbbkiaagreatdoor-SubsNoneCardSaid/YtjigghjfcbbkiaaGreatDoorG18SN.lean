/- The shelf's contract of strconv.Atoi at this seat, in plain words. -/
import Derived.Shelf.LaysC
import Derived.Shelf.Strconv.AtoiAll
import Derived.Test.YtjigghjfcbbkiaaGreatDoorG8SN
import Derived.Test.YtjigghjfcbbkiaaGreatDoorG17SN
set_option linter.unusedVariables false
set_option linter.unusedSimpArgs false
set_option maxRecDepth 100000
set_option maxHeartbeats 6400000
namespace Go.Proofs
open Go.Shelf
def Tryz.atoi172_ren :Go.Shelf.Ren:=⟨fun|172=>141|244=>199|245=>200|247=>253|279=>254|280=>255|281=>256|282=>257|287=>301|316=>302|171=>92|205=>303|321=>323|322=>324|243=>142|246=>201|283=>258|284=>259|285=>260|286=>261|129=>242|317=>304|318=>305|319=>306|320=>307|337=>325|338=>326|n=>n,fun|9=>9|3=>3|75=>173|76=>216|4=>4|5=>5|167=>339|37=>76|0=>0|85=>340|2=>2|168=>342|53=>23|175=>387|46=>264|210=>390|127=>409|145=>412|143=>410|21=>21|171=>345|173=>347|212=>393|51=>329|20=>20|213=>394|232=>425|233=>426|80=>420|n=>n,fun|15=>1|16=>2|17=>3|18=>4|19=>5|n=>n⟩
theorem Tryz.atoi172 :Go.Proofs.LaysC.n172 Tryz.prog Tryz.atoi172_ren:={
 mixed:=by kernel_rfl
 f129:=Tryz.func242.trans (congrArg some (by kernel_rfl))
 f171:=Tryz.func92.trans (congrArg some (by kernel_rfl))
 f172:=Tryz.func141.trans (congrArg some (by kernel_rfl))
 f205:=Tryz.func303.trans (congrArg some (by kernel_rfl))
 f243:=Tryz.func142.trans (congrArg some (by kernel_rfl))
 f244:=Tryz.func199.trans (congrArg some (by kernel_rfl))
 f245:=Tryz.func200.trans (congrArg some (by kernel_rfl))
 f246:=Tryz.func201.trans (congrArg some (by kernel_rfl))
 f247:=Tryz.func253.trans (congrArg some (by kernel_rfl))
 f279:=Tryz.func254.trans (congrArg some (by kernel_rfl))
 f280:=Tryz.func255.trans (congrArg some (by kernel_rfl))
 f281:=Tryz.func256.trans (congrArg some (by kernel_rfl))
 f282:=Tryz.func257.trans (congrArg some (by kernel_rfl))
 f283:=Tryz.func258.trans (congrArg some (by kernel_rfl))
 f284:=Tryz.func259.trans (congrArg some (by kernel_rfl))
 f285:=Tryz.func260.trans (congrArg some (by kernel_rfl))
 f286:=Tryz.func261.trans (congrArg some (by kernel_rfl))
 f287:=Tryz.func301.trans (congrArg some (by kernel_rfl))
 f316:=Tryz.func302.trans (congrArg some (by kernel_rfl))
 f317:=Tryz.func304.trans (congrArg some (by kernel_rfl))
 f318:=Tryz.func305.trans (congrArg some (by kernel_rfl))
 f319:=Tryz.func306.trans (congrArg some (by kernel_rfl))
 f320:=Tryz.func307.trans (congrArg some (by kernel_rfl))
 f321:=Tryz.func323.trans (congrArg some (by kernel_rfl))
 f322:=Tryz.func324.trans (congrArg some (by kernel_rfl))
 f337:=Tryz.func325.trans (congrArg some (by kernel_rfl))
 f338:=Tryz.func326.trans (congrArg some (by kernel_rfl))
 t0:=Tryz.underlying0
 a0:=Tryz.isAgg0
 z0:=Tryz.sizeOf0
 v0:=Tryz.zeroValue0
 t2:=Tryz.underlying2
 a2:=Tryz.isAgg2
 z2:=Tryz.sizeOf2
 v2:=Tryz.zeroValue2
 t3:=Tryz.underlying3
 a3:=Tryz.isAgg3
 z3:=Tryz.sizeOf3
 v3:=Tryz.zeroValue3
 t4:=Tryz.underlying4
 a4:=Tryz.isAgg4
 z4:=Tryz.sizeOf4
 v4:=Tryz.zeroValue4
 t5:=Tryz.underlying5
 a5:=Tryz.isAgg5
 z5:=Tryz.sizeOf5
 v5:=Tryz.zeroValue5
 t9:=Tryz.underlying9
 a9:=Tryz.isAgg9
 z9:=Tryz.sizeOf9
 v9:=Tryz.zeroValue9
 t20:=Tryz.underlying20
 a20:=Tryz.isAgg20
 z20:=Tryz.sizeOf20
 v20:=Tryz.zeroValue20
 t21:=Tryz.underlying21
 a21:=Tryz.isAgg21
 z21:=Tryz.sizeOf21
 v21:=Tryz.zeroValue21
 t37:=Tryz.underlying76
 a37:=Tryz.isAgg76
 z37:=Tryz.sizeOf76
 v37:=Tryz.zeroValue76
 t46:=Tryz.underlying264
 a46:=Tryz.isAgg264
 z46:=Tryz.sizeOf264
 v46:=Tryz.zeroValue264
 t51:=Tryz.underlying329
 a51:=Tryz.isAgg329
 z51:=Tryz.sizeOf329
 v51:=Tryz.zeroValue329
 t53:=Tryz.underlying23
 a53:=Tryz.isAgg23
 z53:=Tryz.sizeOf23
 v53:=Tryz.zeroValue23
 t75:=Tryz.underlying173
 a75:=Tryz.isAgg173
 z75:=Tryz.sizeOf173
 v75:=Tryz.zeroValue173
 t76:=Tryz.underlying216
 a76:=Tryz.isAgg216
 z76:=Tryz.sizeOf216
 v76:=Tryz.zeroValue216
 t85:=Tryz.underlying340
 a85:=Tryz.isAgg340
 z85:=Tryz.sizeOf340
 v85:=Tryz.zeroValue340
 t127:=Tryz.underlying409
 a127:=Tryz.isAgg409
 z127:=Tryz.sizeOf409
 v127:=Tryz.zeroValue409
 t143:=Tryz.underlying410
 a143:=Tryz.isAgg410
 z143:=Tryz.sizeOf410
 v143:=Tryz.zeroValue410
 t145:=Tryz.underlying412
 a145:=Tryz.isAgg412
 z145:=Tryz.sizeOf412
 v145:=Tryz.zeroValue412
 t167:=Tryz.underlying339
 a167:=Tryz.isAgg339
 z167:=Tryz.sizeOf339
 v167:=Tryz.zeroValue339
 t168:=Tryz.underlying342
 a168:=Tryz.isAgg342
 z168:=Tryz.sizeOf342
 v168:=Tryz.zeroValue342
 t171:=Tryz.underlying345
 a171:=Tryz.isAgg345
 z171:=Tryz.sizeOf345
 v171:=Tryz.zeroValue345
 t173:=Tryz.underlying347
 a173:=Tryz.isAgg347
 z173:=Tryz.sizeOf347
 v173:=Tryz.zeroValue347
 t175:=Tryz.underlying387
 a175:=Tryz.isAgg387
 z175:=Tryz.sizeOf387
 v175:=Tryz.zeroValue387
 t210:=Tryz.underlying390
 a210:=Tryz.isAgg390
 z210:=Tryz.sizeOf390
 v210:=Tryz.zeroValue390
 t212:=Tryz.underlying393
 a212:=Tryz.isAgg393
 z212:=Tryz.sizeOf393
 v212:=Tryz.zeroValue393
 t213:=Tryz.underlying394
 a213:=Tryz.isAgg394
 z213:=Tryz.sizeOf394
 t232:=Tryz.underlying425
 a232:=Tryz.isAgg425
 z232:=Tryz.sizeOf425
 v232:=Tryz.zeroValue425
 t233:=Tryz.underlying426
 a233:=Tryz.isAgg426
 z233:=Tryz.sizeOf426
 v233:=Tryz.zeroValue426
 g15:=by kernel_rfl
 g16:=by kernel_rfl
 g17:=by kernel_rfl
 g18:=by kernel_rfl
 g19:=by kernel_rfl
 t80:=Tryz.underlying420
 a80:=Tryz.isAgg420
 z80:=Tryz.sizeOf420
 v80:=Tryz.zeroValue420
 i0:=by kernel_rfl
 i2:=by kernel_rfl
 i3:=by kernel_rfl
 i4:=by kernel_rfl
 i5:=by kernel_rfl
 i9:=by kernel_rfl
 i20:=by kernel_rfl
 i21:=by kernel_rfl
 i37:=by kernel_rfl
 i46:=by kernel_rfl
 i51:=by kernel_rfl
 i53:=by kernel_rfl
 i75:=by kernel_rfl
 i76:=by kernel_rfl
 i80:=by kernel_rfl
 i85:=by kernel_rfl
 i127:=by kernel_rfl
 i143:=by kernel_rfl
 i145:=by kernel_rfl
 i167:=by kernel_rfl
 i168:=by kernel_rfl
 i171:=by kernel_rfl
 i173:=by kernel_rfl
 i175:=by kernel_rfl
 i210:=by kernel_rfl
 i212:=by kernel_rfl
 i232:=by kernel_rfl
 i233:=by kernel_rfl
 m15:=by kernel_rfl
 m16:=by kernel_rfl
 m17:=by kernel_rfl
 m18:=by kernel_rfl
 m19:=by kernel_rfl
 c0:=by kernel_rfl
 c2:=by kernel_rfl
 c3:=by kernel_rfl
 c4:=by kernel_rfl
 c5:=by kernel_rfl
 c9:=by kernel_rfl
 c20:=by kernel_rfl
 c21:=by kernel_rfl
 c37:=by kernel_rfl
 c46:=by kernel_rfl
 c51:=by kernel_rfl
 c53:=by kernel_rfl
 c75:=by kernel_rfl
 c76:=by kernel_rfl
 c80:=by kernel_rfl
 c85:=by kernel_rfl
 c127:=by kernel_rfl
 c143:=by kernel_rfl
 c145:=by kernel_rfl
 c167:=by kernel_rfl
 c168:=by kernel_rfl
 c171:=by kernel_rfl
 c173:=by kernel_rfl
 c175:=by kernel_rfl
 c210:=by kernel_rfl
 c212:=by kernel_rfl
 c213:=by kernel_rfl
 c232:=by kernel_rfl
 c233:=by kernel_rfl}
end Go.Proofs
namespace Go.Proofs.YtjigghjfcbbkiaaGreatDoor
variable {n:Nat}{W W':World}
section
open Go.RowKit
def q4l(s:List UInt8):Option Nat:=if Lib.decDigits (unD s)=s/\unD s<=1073741824 then some (unD s) else none
theorem numU_iff{s:List UInt8}:q4l s=some n↔Lib.decDigits n=s/\n<=1073741824:=by
 unfold q4l
 constructor
 ·intro h
  split at h
  ·rename_i hc;cases h;exact hc
  ·cases h
 ·rintro⟨b,d⟩
  have e:unD s=n:=by rw[<-b,z1r]
  rw[e,ξ ⟨b,d⟩]
theorem z2U : ∀(l:List UInt8) (a:Nat),a<=l.foldl (fun n c=>n*10+(c.toNat-48)) a
 |[],a=>ι _
 |c::r,a=>Ω (by omega) (z2U r (a*10+(c.toNat-48)))
theorem q8G : ∀(l:List UInt8) (a:Nat),l.all q1L=true->l.foldl (fun n c=>n*10+(c.toNat-48)) a<=1073741824->Lib.parseUint10 a l= .ok (l.foldl (fun n c=>n*10+(c.toNat-48)) a)
 |[],a,_,_=>rfl
 | c ::r,a,h,hb=>by
  rw[List.all_cons,Ξ] at h;rw[List.foldl_cons] at hb⊢;have hc:48<=c.toNat/\c.toNat<=57:=by
   have:=h.1;unfold q1L at this
   simpa using this
  have b:=z2U r (a*10+(c.toNat-48));rw[Lib.parseUint10,ξ hc,κ (by omega),κ (by omega)];exact q8G r _ h.2 hb
theorem z1y(l:n<=1073741824):Lib.atoiAll (Lib.decDigits n)= .ok (n:Int):=by
 have b:=z4i n;have i:=z1r n;have j:Lib.parseUint10 0 (Lib.decDigits n)= .ok n:=by
  have:=q8G (Lib.decDigits n) 0 b (by unfold unD at i;omega);rw[this];unfold unD at i;rw[i]
 have d:=y0H n
 cases hL:Lib.decDigits n with
 |nil=>exact absurd hL d
 | cons c r=>
  rw[hL] at b j;rw[List.all_cons,Ξ] at b;have hc:48<=c.toNat/\c.toNat<=57:=by
   have:=b.1;unfold q1L at this
   simpa using this
  rw[Lib.atoiAll_plain c r (by omega) (by omega)];unfold Lib.parseMag;rw[κ (by simp),j];unfold Lib.signless;simp only;rw[κ (by omega)]
def ErrW(W:World):Prop:=(∃t p,W.cell? ⟨1,0,none⟩=some (.iface t p))/\ ∃t p,W.cell? ⟨2,0,none⟩=some (.iface t p)
theorem ErrW.ext(h:ErrW W)(k:Ext W W'):ErrW W':=by
 obtain⟨⟨t,p,b⟩,u,q,d⟩:=h;exact⟨⟨t,p,q0A k b⟩,u,q,q0A k d⟩
theorem y0A(s:List UInt8)(l:s.length<=1000000)(w:World)(he:ErrW w):Calls Tryz.prog 141 #[.string ⟨s.toArray⟩] w fun e w'=> ∃v b,e= .returned (.tuple #[.int .i64 v,b])/\Ext w w'/\
  ((b= .nilIface/\Lib.atoiAll s= .ok v)\/((∃t N,b= .iface t (.pointer (some ⟨N,0,none⟩)))/\ ∀x,Lib.atoiAll s≠ .ok x)):=by
 obtain⟨⟨t,p,i⟩,u,q,j⟩:=he;rcases ha:Lib.atoiAll s with v|_|_
 ·refine(Any.strconv_Atoi_ok Tryz.atoi172 ⟨s.toArray⟩ (by simp[ByteArray.size];omega) v ha w).mono ?_
  rintro e w' ⟨rfl,rfl|⟨t,rfl⟩⟩
  ·exact⟨v,_,rfl,Ext.refl _,.inl ⟨rfl,rfl⟩⟩
  ·exact⟨v,_,rfl,Lib.bytesWorld_below _ _ _,.inl ⟨rfl,rfl⟩⟩
 ·refine(Any.strconv_Atoi_syntax Tryz.atoi172 ⟨s.toArray⟩ (by simp[ByteArray.size];omega) ha _ w i (.inr ⟨_,_,rfl⟩)).mono ?_
  rintro e w' ⟨N,rfl,_,_,h⟩;exact⟨0,_,rfl,h,.inr ⟨⟨_,_,rfl⟩,fun x d=>by cases d⟩⟩
 ·refine(Any.strconv_Atoi_range Tryz.atoi172 ⟨s.toArray⟩ (by simp[ByteArray.size];omega) ha _ w j (.inr ⟨_,_,rfl⟩)).mono ?_
  rintro e w' ⟨N,rfl,_,_,h⟩;exact⟨_,_,rfl,h,.inr ⟨⟨_,_,rfl⟩,fun x d=>by cases d⟩⟩
def SbW(W:World):Prop:=TabW W/\ErrW W
theorem SbW.ext(h:SbW W)(k:Ext W W'):SbW W':=⟨h.1.ext k,h.2.ext k⟩
def z9r(s:List UInt8)(v:Int)(b:Bool):Prop:=(b=true->q4l s=some v.toNat/\0<=v)/\(b=false->q4l s=none)
theorem z3r(s:List UInt8)(U:s.length<=1000000)(w:World)(J:SbW w):Calls Tryz.prog 90 #[.string ⟨s.toArray⟩] w fun e w'=> ∃v b,e= .returned (.tuple #[.int .i64 v,.bool b])/\Ext w w'/\z9r s v b:=by
 have u:=η (y0A s U w J.2);have O:=η (fun W (k:Ext w W)=>J.1.ext k);clear J;go_enter Tryz.func90,Tryz.ntmps90;go_wp2_with fail;refine u.o.mono ?_;rintro e w1 ⟨v,Y,rfl,j,hc⟩;have q:=η j;have B:=η (O.o w1 j);rcases hc with⟨rfl,hc⟩|⟨⟨t,N,rfl⟩,hc⟩
 ·have V:=η hc
  have r: ∀n,q4l s=some n->(n:Int)=v:=fun n r=>by
   obtain⟨l,E⟩:=numU_iff.1 r;have:=z1y E;rw[l,hc] at this;injection this with this;exact this.symm
  have y:=η r;clear j hc r u;by_cases C:0<=v
  case neg=>
   have Q:decide ((0:Int)<=v)=false:=ε C
   have d:Hd (z9r s v false):=η ⟨(fun h=>by cases h),fun _=>by
    cases hq:q4l s with
    |none=>rfl
    |some n=>have:=y.o n hq;omega⟩
   go_wp2_with fail;go_ret2;exact⟨v,false,rfl,q.o,d.o⟩
  by_cases l:v<=1073741824
  case neg=>
   have Q:decide (v<=1073741824)=false:=ε l
   have d:Hd (z9r s v false):=η ⟨(fun h=>by cases h),fun _=>by
    cases hq:q4l s with
    |none=>rfl
    |some n=>have:=y.o n hq;have:=(numU_iff.1 hq).2;omega⟩
   go_wp2_with fail;go_ret2;exact⟨v,false,rfl,q.o,d.o⟩
  obtain⟨n,rfl⟩: ∃n:Nat,v=(n:Int):=⟨v.toNat,by omega⟩
  have R:decide ((0:Int)<=(n:Int))=true:=ζ C;have S:decide ((n:Int)<=1073741824)=true:=ζ l;have x:=η (z8P n (by omega) w1 B.o);obtain⟨D,F⟩: ∃D,Lib.decDigits n=D:=⟨_,rfl⟩
  rw[F] at x;have I:n<=1073741824:=by omega
  go_wp2_with fail;refine x.o.mono ?_;rintro e Z ⟨rfl,j⟩;have m:=η (q.o.trans j);clear j x;by_cases i:D=s
  ·subst i
   have G:(D==D)=true:=beq_self_eq_true D;have d:Hd (z9r D (n:Int) true):=η ⟨fun _=>⟨numU_iff.2 ⟨F,I⟩,C⟩,fun h=>by cases h⟩;go_wp2_with fail;go_ret2;exact⟨(n:Int),true,rfl,m.o,d.o⟩
  ·have G:(D==s)=false:=beq_eq_false_iff_ne.2 i
   have d:Hd (z9r s (n:Int) false):=η ⟨(fun h=>by cases h),fun _=>by
    cases hq:q4l s with
    |none=>rfl
    | some k=>
     have X:=y.o k hq;obtain⟨M,_⟩:=numU_iff.1 hq;rw[show k=n by omega,F] at M
     exact absurd M i⟩
   go_wp2_with fail;go_ret2;exact⟨(n:Int),false,rfl,m.o,d.o⟩
 ·have d:Hd (z9r s v false):=η ⟨(fun h=>by cases h),fun _=>by
   cases hq:q4l s with
   |none=>rfl
   | some n=>
    obtain⟨l,E⟩:=numU_iff.1 hq;have:=z1y E;rw[l] at this
    exact absurd this (hc _)⟩
  clear j hc u;go_wp2_with fail;go_ret2;exact⟨v,false,rfl,q.o,d.o⟩
theorem z0s(n:Nat):n<=1073741825-> ∀w:World,Calls Tryz.prog 97 #[.int .i64 (n:Int)] w fun e w'=>e= .returned (.string ⟨(Lib.decDigits n).toArray⟩)/\Ext w w':=by
 induction n using Nat.strongRecOn with
 | _ n ih=>
  intro E w;by_cases h:n<10
  ·have C:decide ((n:Int)<(10:Int))=true:=ζ (by omega)
   have x:IntKind.i64.wrap ((n:Int)+1)=(n:Int)+1:=by rw[ν];omega
   have d:=z0t h;have m:Hd (Lib.decDigits n=[UInt8.ofNat (48+n)]):=η (Lib.decDigits_one h);have F:=q2Y (X:=[UInt8.ofNat (48+n)]) [48,49,50,51,52,53,54,55,56,57] (n:Int) ((n:Int)+1) n (n+1) rfl (by omega) (by omega) (by simp;omega) (by rw[List.drop_take,show n+1-n=1 by omega];exact d);clear d h;generalize UInt8.ofNat (48+n)=B at*;clear ih;go_enter Tryz.func97,Tryz.ntmps97;go_wp2_with fail;go_ret;exact⟨by rw[m.o];rfl,Ext.refl _⟩
  ·have C:decide ((n:Int)<(10:Int))=false:=ε (by omega)
   have x:(n:Int).tdiv 10=((n/10:Nat):Int):=by rw[Int.tdiv_eq_ediv_of_nonneg (by omega)];omega
   have G:(n:Int).tmod 10=((n % 10:Nat):Int):=by rw[Int.tmod_eq_emod_of_nonneg (by omega)];omega
   have I:IntKind.i64.wrap ((n/10:Nat):Int)=((n/10:Nat):Int):=by rw[ν];omega
   have m:Hd (Lib.decDigits n=Lib.decDigits (n/10)++[UInt8.ofNat (48+n % 10)]):=η (by rw[Lib.decDigits,dif_neg h]);have l:=η (ih (n/10) (by omega) (by omega));have j:=η (ih (n % 10) (by omega) (by omega));have y:Hd (Lib.decDigits (n % 10)=[UInt8.ofNat (48+n % 10)]):=η (Lib.decDigits_one (Nat.mod_lt _ (by decide)));have D:(Lib.decDigits (n/10)).length<=10:=q5B (by omega);have s:(Lib.decDigits (n % 10)).length<=10:=q5B (by omega);obtain⟨a,u⟩: ∃a:Int,((n/10:Nat):Int)=a:=⟨_,rfl⟩
   obtain⟨b,v⟩: ∃b:Int,((n % 10:Nat):Int)=b:=⟨_,rfl⟩
   rw[u] at x I l;rw[v] at G j;rw[y.o] at j s;generalize Lib.decDigits (n/10)=A at*;have J:¬(9223372036854775807<A.length+[UInt8.ofNat (48+n % 10)].length):=by omega
   generalize UInt8.ofNat (48+n % 10)=B at*;clear ih u v h E;go_enter Tryz.func97,Tryz.ntmps97;go_wp2_with fail;refine(l.o _).mono ?_;rintro e w1 ⟨rfl,i⟩;have q:=η i;clear i l;go_wp2_with fail;refine(j.o _).mono ?_;rintro e M ⟨rfl,i⟩;have r:=η (q.o.trans i);clear i j;go_wp2_with fail;go_ret;exact⟨by rw[m.o];rfl,r.o⟩
def z0B(s:List UInt8):Int:=match q4l s with|some n=>(n:Int)|none=> -1
theorem z8I{s:List UInt8}{k:Nat}(h:k<s.length):unD (s.take (k+1))=unD (s.take k)*10+((s.getD k 0).toNat-48):=by
 rw[List.take_succ_eq_append_getElem h];unfold unD;rw[List.foldl_append,δ,γ h]
 rfl
theorem q8B{s:List UInt8}(h:q4l s=some n):s.length<=10/\unD s=n/\s.all q1L=true:=by
 obtain⟨b,d⟩:=numU_iff.1 h;exact⟨by rw[<-b];exact q5B (by omega),by rw[<-b,z1r],by rw[<-b];exact z4i n⟩
theorem z3x(s:List UInt8)(hs:s.length<=1000000)(w:World):Calls Tryz.prog 95 #[.string ⟨s.toArray⟩] w fun e w'=>e= .returned (.int .i64 (z0B s))/\Ext w w':=by
 go_enter Tryz.func95,Tryz.ntmps95;go_wp2_with fail
 go_loopw [3,4] (fun n i W=> ∃(k N:Nat),k<=s.length/\k<=11/\i= .int .i64 (k:Int)/\n= .int .i64 (N:Int)/\Hd (N=unD (s.take k))/\N<10^k/\Ext w W) (fun _ i _=>11-(intOf i).toNat)
 case atStart=>exact⟨0,0,υ _,by omega,rfl,rfl,η rfl,by decide,Ext.refl _⟩
 case round =>
  obtain⟨k,N,hk,e0,rfl,rfl,x,y,l⟩:=hrel;have r:=η l;clear l;have hp:(10:Nat)^k<=10^11:=Nat.pow_le_pow_right (by decide) e0;have g0:N<=100000000000:=Ω (Nat.le_of_lt y) hp;by_cases X:k<s.length/\k<11
  ·obtain⟨V,o0⟩:=X
   have j0:decide ((k:Int)<(s.length:Int))=true:=ζ (by omega);have k0:decide ((k:Int)<11)=true:=ζ (by omega);obtain⟨c,hc⟩: ∃c,s[k]? =some c:=⟨_,γ V⟩
   have u:s.getD k 0=c:=by rw[δ,hc];rfl
   have Y:=z6e hc;have O:=η (z8I V);rw[u] at O;have i0:=c.toNat_lt;have I:Hd ((c.toNat<48\/57<c.toNat)->z0B s= -1):=η fun h=>by
    unfold z0B
    cases hq:q4l s with
    |none=>rfl
    | some n=>
     obtain⟨_,_,h3⟩:=q8B hq;have:=List.all_eq_true.1 h3 c (List.mem_of_getElem? hc);unfold q1L at this;simp at this;omega
   have n0:(k:Int)<(s.length:Int):=by omega
   have m0:(0:Int)<=(k:Int):=by omega
   by_cases B:c.toNat<48
   ·have E:=η (I.o (.inl B))
    have c0:decide ((c.toNat:Int)<48)=true:=ζ (by omega);clear hc u;go_wp2_with fail
    (try rw[Exit.noGoto_ret])
    go_ret;exact⟨by rw[E.o];rfl,r.o⟩
   have c0:decide ((c.toNat:Int)<48)=false:=ε (by omega);by_cases C:57<c.toNat
   ·have E:=η (I.o (.inr C))
    have d0:decide ((57:Int)<(c.toNat:Int))=true:=ζ (by omega);clear hc u;go_wp2_with fail
    (try rw[Exit.noGoto_ret])
    go_ret;exact⟨by rw[E.o];rfl,r.o⟩
   have d0:decide ((57:Int)<(c.toNat:Int))=false:=ε (by omega);obtain⟨d,hd⟩: ∃d:Nat,c.toNat=48+d:=⟨c.toNat-48,by omega⟩
   have l0:d<=9:=by omega
   have q1:IntKind.i64.wrap (10*(N:Int))=10*(N:Int):=by rw[ν];omega
   have q2:IntKind.u8.wrap ((c.toNat:Int)-48)=(d:Int):=by rw[IntKind.wrap_u8];omega
   have q3:IntKind.i64.wrap (d:Int)=(d:Int):=by rw[ν];omega
   have q4:IntKind.i64.wrap (10*(N:Int)+(d:Int))=10*(N:Int)+(d:Int):=by rw[ν];omega
   have q5:IntKind.i64.wrap ((k:Int)+1)=(k:Int)+1:=by rw[ν];omega
   have f0:(10:Nat)^(k+1)=10^k*10:=Nat.pow_succ 10 k;have Z:Hd (N*10+d<10^(k+1)):=η (by omega);have HD:Hd (c.toNat-48=d):=η (by omega);clear hc u f0 hp y;go_wp2_with fail
   go_roundw
   case rel=>exact⟨k+1,N*10+d,by omega,by omega,by go_num,by rw[show(10*(N:Int)+(48+(d:Int)-48))=((N*10+d:Nat):Int) by omega],η (by rw[O.o,<-x.o,HD.o]),Z.o,r.o⟩
   case measure=>simp[intOf];omega
  ·have hc:(¬k<s.length)\/(k<s.length/\¬(k:Int)<11):=by omega
   have J:Hd (∀m,q4l s=some m->N=m):=η fun m hm=>by
    obtain⟨B,C,_⟩:=q8B hm;have e:s.take k=s:=Δ (by omega);rw[x.o,e,C]
   have v:Hd ((1073741824<N\/Lib.decDigits N≠s)->z0B s= -1):=η fun h=>by
    unfold z0B
    cases hq:q4l s with
    |none=>rfl
    | some m=>
     have e:=J.o m hq;obtain⟨B,C⟩:=numU_iff.1 hq;rcases h with h|h
     ·omega
     ·rw[e] at h;exact absurd B h
   have M:Hd (N<=1073741824->Lib.decDigits N=s->z0B s=(N:Int)):=η fun B C=>by
    unfold z0B;rw[numU_iff.2 ⟨C,B⟩]
   clear X hp y x J;by_cases Y:1073741824<N
   ·have E:=η (v.o (.inl Y))
    have b0:decide ((1073741824:Int)<(N:Int))=true:=ζ (by omega);clear Y;rcases hc with hc|⟨hc,U⟩
    ·go_wp2_with fail
     go_ret;exact⟨by rw[E.o];rfl,r.o⟩
    ·go_wp2_with fail
     go_ret;exact⟨by rw[E.o];rfl,r.o⟩
   ·have b0:decide ((1073741824:Int)<(N:Int))=false:=ε (by omega)
    have q:=η (fun W=>z0s N (by omega) W);have Q:N<=1073741824:=by omega
    obtain⟨D,hD⟩: ∃D,Lib.decDigits N=D:=⟨_,rfl⟩
    rw[hD] at q v M;have a0: ∃b,(D==s)=b/\(b=false->z0B s= -1)/\(b=true->z0B s=(N:Int)):=by
     by_cases h:D=s
     ·exact⟨true,by rw[h];exact beq_self_eq_true s,(fun h=>by cases h),fun _=>M.o Q h⟩
     ·exact⟨false,beq_eq_false_iff_ne.2 h,fun _=>v.o (.inr h),fun h=>by cases h⟩
    obtain⟨b,h0,R,S⟩:=a0;have F:=η R;have G:=η S;clear hD Y R S
    cases b with
    | false=>
     rcases hc with hc|⟨hc,U⟩
     ·go_wp2_with fail
      refine(q.o _).mono ?_;rintro e w2 ⟨rfl,l⟩;have j:=η (r.o.trans l);clear l;go_wp2_with fail;go_ret;exact⟨by rw[F.o trivial];rfl,j.o⟩
     ·go_wp2_with fail
      refine(q.o _).mono ?_;rintro e w2 ⟨rfl,l⟩;have j:=η (r.o.trans l);clear l;go_wp2_with fail;go_ret;exact⟨by rw[F.o trivial];rfl,j.o⟩
    | true=>
     rcases hc with hc|⟨hc,U⟩
     ·go_wp2_with fail
      refine(q.o _).mono ?_;rintro e w2 ⟨rfl,l⟩;have j:=η (r.o.trans l);clear l;go_wp2_with fail;go_ret;exact⟨by rw[G.o trivial];rfl,j.o⟩
     ·go_wp2_with fail
      refine(q.o _).mono ?_;rintro e w2 ⟨rfl,l⟩;have j:=η (r.o.trans l);clear l;go_wp2_with fail;go_ret;exact⟨by rw[G.o trivial];rfl,j.o⟩
end
end Go.Proofs.YtjigghjfcbbkiaaGreatDoor
