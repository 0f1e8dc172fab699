/- The shelf's contract of strconv.Atoi at this seat, in plain words. -/
import Derived.Shelf.LaysC
import Derived.Shelf.Strconv.AtoiAll
import Derived.Test.YtfiibpgoplcgkaaGreatDoorG8SY
import Derived.Test.YtfiibpgoplcgkaaGreatDoorG16SY
set_option linter.unusedVariables false
set_option linter.unusedSimpArgs false
set_option maxRecDepth 100000
set_option maxHeartbeats 6400000
namespace Go.Proofs
open Go.Shelf
def Tryz.atoi172_ren :Go.Shelf.Ren:=⟨fun|172=>154|244=>217|245=>218|247=>268|279=>269|280=>270|281=>271|282=>272|287=>315|316=>316|171=>95|205=>317|321=>336|322=>337|243=>155|246=>219|283=>273|284=>274|285=>275|286=>276|129=>255|317=>318|318=>319|319=>320|320=>321|337=>338|338=>339|n=>n,fun|9=>9|3=>3|75=>206|76=>207|4=>4|5=>5|167=>345|37=>75|0=>0|85=>346|2=>2|168=>348|53=>23|175=>393|46=>272|210=>396|127=>271|145=>416|143=>414|21=>21|171=>351|173=>353|212=>399|51=>269|20=>20|213=>400|232=>425|233=>426|80=>213|n=>n,fun|15=>1|16=>2|17=>3|18=>4|19=>5|n=>n⟩
theorem Tryz.atoi172 :Go.Proofs.LaysC.n172 Tryz.prog Tryz.atoi172_ren:={
 mixed:=by kernel_rfl
 f129:=Tryz.func255.trans (congrArg some (by kernel_rfl))
 f171:=Tryz.func95.trans (congrArg some (by kernel_rfl))
 f172:=Tryz.func154.trans (congrArg some (by kernel_rfl))
 f205:=Tryz.func317.trans (congrArg some (by kernel_rfl))
 f243:=Tryz.func155.trans (congrArg some (by kernel_rfl))
 f244:=Tryz.func217.trans (congrArg some (by kernel_rfl))
 f245:=Tryz.func218.trans (congrArg some (by kernel_rfl))
 f246:=Tryz.func219.trans (congrArg some (by kernel_rfl))
 f247:=Tryz.func268.trans (congrArg some (by kernel_rfl))
 f279:=Tryz.func269.trans (congrArg some (by kernel_rfl))
 f280:=Tryz.func270.trans (congrArg some (by kernel_rfl))
 f281:=Tryz.func271.trans (congrArg some (by kernel_rfl))
 f282:=Tryz.func272.trans (congrArg some (by kernel_rfl))
 f283:=Tryz.func273.trans (congrArg some (by kernel_rfl))
 f284:=Tryz.func274.trans (congrArg some (by kernel_rfl))
 f285:=Tryz.func275.trans (congrArg some (by kernel_rfl))
 f286:=Tryz.func276.trans (congrArg some (by kernel_rfl))
 f287:=Tryz.func315.trans (congrArg some (by kernel_rfl))
 f316:=Tryz.func316.trans (congrArg some (by kernel_rfl))
 f317:=Tryz.func318.trans (congrArg some (by kernel_rfl))
 f318:=Tryz.func319.trans (congrArg some (by kernel_rfl))
 f319:=Tryz.func320.trans (congrArg some (by kernel_rfl))
 f320:=Tryz.func321.trans (congrArg some (by kernel_rfl))
 f321:=Tryz.func336.trans (congrArg some (by kernel_rfl))
 f322:=Tryz.func337.trans (congrArg some (by kernel_rfl))
 f337:=Tryz.func338.trans (congrArg some (by kernel_rfl))
 f338:=Tryz.func339.trans (congrArg some (by kernel_rfl))
 t0:=Tryz.underlying0
 a0:=Tryz.isAgg0
 z0:=Tryz.sizeOf0
 v0:=Tryz.zeroValue0
 t2:=Tryz.underlying2
 a2:=Tryz.isAgg2
 z2:=Tryz.sizeOf2
 v2:=Tryz.zeroValue2
 t3:=Tryz.underlying3
 a3:=Tryz.isAgg3
 z3:=Tryz.sizeOf3
 v3:=Tryz.zeroValue3
 t4:=Tryz.underlying4
 a4:=Tryz.isAgg4
 z4:=Tryz.sizeOf4
 v4:=Tryz.zeroValue4
 t5:=Tryz.underlying5
 a5:=Tryz.isAgg5
 z5:=Tryz.sizeOf5
 v5:=Tryz.zeroValue5
 t9:=Tryz.underlying9
 a9:=Tryz.isAgg9
 z9:=Tryz.sizeOf9
 v9:=Tryz.zeroValue9
 t20:=Tryz.underlying20
 a20:=Tryz.isAgg20
 z20:=Tryz.sizeOf20
 v20:=Tryz.zeroValue20
 t21:=Tryz.underlying21
 a21:=Tryz.isAgg21
 z21:=Tryz.sizeOf21
 v21:=Tryz.zeroValue21
 t37:=Tryz.underlying75
 a37:=Tryz.isAgg75
 z37:=Tryz.sizeOf75
 v37:=Tryz.zeroValue75
 t46:=Tryz.underlying272
 a46:=Tryz.isAgg272
 z46:=Tryz.sizeOf272
 v46:=Tryz.zeroValue272
 t51:=Tryz.underlying269
 a51:=Tryz.isAgg269
 z51:=Tryz.sizeOf269
 v51:=Tryz.zeroValue269
 t53:=Tryz.underlying23
 a53:=Tryz.isAgg23
 z53:=Tryz.sizeOf23
 v53:=Tryz.zeroValue23
 t75:=Tryz.underlying206
 a75:=Tryz.isAgg206
 z75:=Tryz.sizeOf206
 v75:=Tryz.zeroValue206
 t76:=Tryz.underlying207
 a76:=Tryz.isAgg207
 z76:=Tryz.sizeOf207
 v76:=Tryz.zeroValue207
 t85:=Tryz.underlying346
 a85:=Tryz.isAgg346
 z85:=Tryz.sizeOf346
 v85:=Tryz.zeroValue346
 t127:=Tryz.underlying271
 a127:=Tryz.isAgg271
 z127:=Tryz.sizeOf271
 v127:=Tryz.zeroValue271
 t143:=Tryz.underlying414
 a143:=Tryz.isAgg414
 z143:=Tryz.sizeOf414
 v143:=Tryz.zeroValue414
 t145:=Tryz.underlying416
 a145:=Tryz.isAgg416
 z145:=Tryz.sizeOf416
 v145:=Tryz.zeroValue416
 t167:=Tryz.underlying345
 a167:=Tryz.isAgg345
 z167:=Tryz.sizeOf345
 v167:=Tryz.zeroValue345
 t168:=Tryz.underlying348
 a168:=Tryz.isAgg348
 z168:=Tryz.sizeOf348
 v168:=Tryz.zeroValue348
 t171:=Tryz.underlying351
 a171:=Tryz.isAgg351
 z171:=Tryz.sizeOf351
 v171:=Tryz.zeroValue351
 t173:=Tryz.underlying353
 a173:=Tryz.isAgg353
 z173:=Tryz.sizeOf353
 v173:=Tryz.zeroValue353
 t175:=Tryz.underlying393
 a175:=Tryz.isAgg393
 z175:=Tryz.sizeOf393
 v175:=Tryz.zeroValue393
 t210:=Tryz.underlying396
 a210:=Tryz.isAgg396
 z210:=Tryz.sizeOf396
 v210:=Tryz.zeroValue396
 t212:=Tryz.underlying399
 a212:=Tryz.isAgg399
 z212:=Tryz.sizeOf399
 v212:=Tryz.zeroValue399
 t213:=Tryz.underlying400
 a213:=Tryz.isAgg400
 z213:=Tryz.sizeOf400
 t232:=Tryz.underlying425
 a232:=Tryz.isAgg425
 z232:=Tryz.sizeOf425
 v232:=Tryz.zeroValue425
 t233:=Tryz.underlying426
 a233:=Tryz.isAgg426
 z233:=Tryz.sizeOf426
 v233:=Tryz.zeroValue426
 g15:=by kernel_rfl
 g16:=by kernel_rfl
 g17:=by kernel_rfl
 g18:=by kernel_rfl
 g19:=by kernel_rfl
 t80:=Tryz.underlying213
 a80:=Tryz.isAgg213
 z80:=Tryz.sizeOf213
 v80:=Tryz.zeroValue213
 i0:=by kernel_rfl
 i2:=by kernel_rfl
 i3:=by kernel_rfl
 i4:=by kernel_rfl
 i5:=by kernel_rfl
 i9:=by kernel_rfl
 i20:=by kernel_rfl
 i21:=by kernel_rfl
 i37:=by kernel_rfl
 i46:=by kernel_rfl
 i51:=by kernel_rfl
 i53:=by kernel_rfl
 i75:=by kernel_rfl
 i76:=by kernel_rfl
 i80:=by kernel_rfl
 i85:=by kernel_rfl
 i127:=by kernel_rfl
 i143:=by kernel_rfl
 i145:=by kernel_rfl
 i167:=by kernel_rfl
 i168:=by kernel_rfl
 i171:=by kernel_rfl
 i173:=by kernel_rfl
 i175:=by kernel_rfl
 i210:=by kernel_rfl
 i212:=by kernel_rfl
 i232:=by kernel_rfl
 i233:=by kernel_rfl
 m15:=by kernel_rfl
 m16:=by kernel_rfl
 m17:=by kernel_rfl
 m18:=by kernel_rfl
 m19:=by kernel_rfl
 c0:=by kernel_rfl
 c2:=by kernel_rfl
 c3:=by kernel_rfl
 c4:=by kernel_rfl
 c5:=by kernel_rfl
 c9:=by kernel_rfl
 c20:=by kernel_rfl
 c21:=by kernel_rfl
 c37:=by kernel_rfl
 c46:=by kernel_rfl
 c51:=by kernel_rfl
 c53:=by kernel_rfl
 c75:=by kernel_rfl
 c76:=by kernel_rfl
 c80:=by kernel_rfl
 c85:=by kernel_rfl
 c127:=by kernel_rfl
 c143:=by kernel_rfl
 c145:=by kernel_rfl
 c167:=by kernel_rfl
 c168:=by kernel_rfl
 c171:=by kernel_rfl
 c173:=by kernel_rfl
 c175:=by kernel_rfl
 c210:=by kernel_rfl
 c212:=by kernel_rfl
 c213:=by kernel_rfl
 c232:=by kernel_rfl
 c233:=by kernel_rfl}
end Go.Proofs
namespace Go.Proofs.YtfiibpgoplcgkaaGreatDoor
variable {n:Nat}{W W':World}
section
open Go.RowKit
def q5A(s:List UInt8):Option Nat:=if Lib.decDigits (unD s)=s/\unD s<=1073741824 then some (unD s) else none
theorem numU_iff{s:List UInt8}:q5A s=some n↔Lib.decDigits n=s/\n<=1073741824:=by
 unfold q5A
 constructor
 ·intro h
  split at h
  ·rename_i hc;cases h;exact hc
  ·cases h
 ·rintro⟨b,d⟩
  have e:unD s=n:=by rw[<-b,z2h]
  rw[e,ξ ⟨b,d⟩]
theorem z3K : ∀(l:List UInt8) (a:Nat),a<=l.foldl (fun n c=>n*10+(c.toNat-48)) a
 |[],a=>ι _
 |c::r,a=>Ω (by omega) (z3K r (a*10+(c.toNat-48)))
theorem q8r : ∀(l:List UInt8) (a:Nat),l.all q1S=true->l.foldl (fun n c=>n*10+(c.toNat-48)) a<=1073741824->Lib.parseUint10 a l= .ok (l.foldl (fun n c=>n*10+(c.toNat-48)) a)
 |[],a,_,_=>rfl
 | c ::r,a,h,hb=>by
  rw[List.all_cons,Ξ] at h;rw[List.foldl_cons] at hb⊢;have hc:48<=c.toNat/\c.toNat<=57:=by
   have:=h.1;unfold q1S at this
   simpa using this
  have b:=z3K r (a*10+(c.toNat-48));rw[Lib.parseUint10,ξ hc,κ (by omega),κ (by omega)];exact q8r r _ h.2 hb
theorem z2o(l:n<=1073741824):Lib.atoiAll (Lib.decDigits n)= .ok (n:Int):=by
 have b:=z5g n;have i:=z2h n;have j:Lib.parseUint10 0 (Lib.decDigits n)= .ok n:=by
  have:=q8r (Lib.decDigits n) 0 b (by unfold unD at i;omega);rw[this];unfold unD at i;rw[i]
 have d:=y1X n
 cases hL:Lib.decDigits n with
 |nil=>exact absurd hL d
 | cons c r=>
  rw[hL] at b j;rw[List.all_cons,Ξ] at b;have hc:48<=c.toNat/\c.toNat<=57:=by
   have:=b.1;unfold q1S at this
   simpa using this
  rw[Lib.atoiAll_plain c r (by omega) (by omega)];unfold Lib.parseMag;rw[κ (by simp),j];unfold Lib.signless;simp only;rw[κ (by omega)]
def ErrW(W:World):Prop:=(∃t p,W.cell? ⟨1,0,none⟩=some (.iface t p))/\ ∃t p,W.cell? ⟨2,0,none⟩=some (.iface t p)
theorem ErrW.ext(h:ErrW W)(k:Ext W W'):ErrW W':=by
 obtain⟨⟨t,p,b⟩,u,q,d⟩:=h;exact⟨⟨t,p,q0A k b⟩,u,q,q0A k d⟩
theorem y1Q(s:List UInt8)(l:s.length<=1000000)(w:World)(he:ErrW w):Calls Tryz.prog 154 #[.string ⟨s.toArray⟩] w fun e w'=> ∃v b,e= .returned (.tuple #[.int .i64 v,b])/\Ext w w'/\
  ((b= .nilIface/\Lib.atoiAll s= .ok v)\/((∃t N,b= .iface t (.pointer (some ⟨N,0,none⟩)))/\ ∀x,Lib.atoiAll s≠ .ok x)):=by
 obtain⟨⟨t,p,i⟩,u,q,j⟩:=he;rcases ha:Lib.atoiAll s with v|_|_
 ·refine(Any.strconv_Atoi_ok Tryz.atoi172 ⟨s.toArray⟩ (by simp[ByteArray.size];omega) v ha w).mono ?_
  rintro e w' ⟨rfl,rfl|⟨t,rfl⟩⟩
  ·exact⟨v,_,rfl,Ext.refl _,.inl ⟨rfl,rfl⟩⟩
  ·exact⟨v,_,rfl,Lib.bytesWorld_below _ _ _,.inl ⟨rfl,rfl⟩⟩
 ·refine(Any.strconv_Atoi_syntax Tryz.atoi172 ⟨s.toArray⟩ (by simp[ByteArray.size];omega) ha _ w i (.inr ⟨_,_,rfl⟩)).mono ?_
  rintro e w' ⟨N,rfl,_,_,h⟩;exact⟨0,_,rfl,h,.inr ⟨⟨_,_,rfl⟩,fun x d=>by cases d⟩⟩
 ·refine(Any.strconv_Atoi_range Tryz.atoi172 ⟨s.toArray⟩ (by simp[ByteArray.size];omega) ha _ w j (.inr ⟨_,_,rfl⟩)).mono ?_
  rintro e w' ⟨N,rfl,_,_,h⟩;exact⟨_,_,rfl,h,.inr ⟨⟨_,_,rfl⟩,fun x d=>by cases d⟩⟩
def SbW(W:World):Prop:=TabW W/\ErrW W
theorem SbW.ext(h:SbW W)(k:Ext W W'):SbW W':=⟨h.1.ext k,h.2.ext k⟩
def y1F(s:List UInt8)(v:Int)(b:Bool):Prop:=(b=true->q5A s=some v.toNat/\0<=v)/\(b=false->q5A s=none)
theorem z4q(s:List UInt8)(U:s.length<=1000000)(w:World)(J:SbW w):Calls Tryz.prog 93 #[.string ⟨s.toArray⟩] w fun e w'=> ∃v b,e= .returned (.tuple #[.int .i64 v,.bool b])/\Ext w w'/\y1F s v b:=by
 have u:=η (y1Q s U w J.2);have O:=η (fun W (k:Ext w W)=>J.1.ext k);clear J;go_enter Tryz.func93,Tryz.ntmps93;go_wp2_with fail;refine u.o.mono ?_;rintro e w1 ⟨v,Y,rfl,j,hc⟩;have q:=η j;have B:=η (O.o w1 j);rcases hc with⟨rfl,hc⟩|⟨⟨t,N,rfl⟩,hc⟩
 ·have V:=η hc
  have r: ∀n,q5A s=some n->(n:Int)=v:=fun n r=>by
   obtain⟨l,E⟩:=numU_iff.1 r;have:=z2o E;rw[l,hc] at this;injection this with this;exact this.symm
  have y:=η r;clear j hc r u;by_cases C:0<=v
  case neg=>
   have Q:decide ((0:Int)<=v)=false:=ε C
   have d:Hd (y1F s v false):=η ⟨(fun h=>by cases h),fun _=>by
    cases hq:q5A s with
    |none=>rfl
    |some n=>have:=y.o n hq;omega⟩
   go_wp2_with fail;go_ret2;exact⟨v,false,rfl,q.o,d.o⟩
  by_cases l:v<=1073741824
  case neg=>
   have Q:decide (v<=1073741824)=false:=ε l
   have d:Hd (y1F s v false):=η ⟨(fun h=>by cases h),fun _=>by
    cases hq:q5A s with
    |none=>rfl
    |some n=>have:=y.o n hq;have:=(numU_iff.1 hq).2;omega⟩
   go_wp2_with fail;go_ret2;exact⟨v,false,rfl,q.o,d.o⟩
  obtain⟨n,rfl⟩: ∃n:Nat,v=(n:Int):=⟨v.toNat,by omega⟩
  have R:decide ((0:Int)<=(n:Int))=true:=ζ C;have S:decide ((n:Int)<=1073741824)=true:=ζ l;have x:=η (z9W n (by omega) w1 B.o);obtain⟨D,F⟩: ∃D,Lib.decDigits n=D:=⟨_,rfl⟩
  rw[F] at x;have I:n<=1073741824:=by omega
  go_wp2_with fail;refine x.o.mono ?_;rintro e Z ⟨rfl,j⟩;have m:=η (q.o.trans j);clear j x;by_cases i:D=s
  ·subst i
   have G:(D==D)=true:=beq_self_eq_true D;have d:Hd (y1F D (n:Int) true):=η ⟨fun _=>⟨numU_iff.2 ⟨F,I⟩,C⟩,fun h=>by cases h⟩;go_wp2_with fail;go_ret2;exact⟨(n:Int),true,rfl,m.o,d.o⟩
  ·have G:(D==s)=false:=beq_eq_false_iff_ne.2 i
   have d:Hd (y1F s (n:Int) false):=η ⟨(fun h=>by cases h),fun _=>by
    cases hq:q5A s with
    |none=>rfl
    | some k=>
     have X:=y.o k hq;obtain⟨M,_⟩:=numU_iff.1 hq;rw[show k=n by omega,F] at M
     exact absurd M i⟩
   go_wp2_with fail;go_ret2;exact⟨(n:Int),false,rfl,m.o,d.o⟩
 ·have d:Hd (y1F s v false):=η ⟨(fun h=>by cases h),fun _=>by
   cases hq:q5A s with
   |none=>rfl
   | some n=>
    obtain⟨l,E⟩:=numU_iff.1 hq;have:=z2o E;rw[l] at this
    exact absurd this (hc _)⟩
  clear j hc u;go_wp2_with fail;go_ret2;exact⟨v,false,rfl,q.o,d.o⟩
theorem q7E(n:Nat):n<=1073741825-> ∀w:World,Calls Tryz.prog 99 #[.int .i64 (n:Int)] w fun e w'=>e= .returned (.string ⟨(Lib.decDigits n).toArray⟩)/\Ext w w':=by
 induction n using Nat.strongRecOn with
 | _ n ih=>
  intro E w;by_cases h:n<10
  ·have C:decide ((n:Int)<(10:Int))=true:=ζ (by omega)
   have x:IntKind.i64.wrap ((n:Int)+1)=(n:Int)+1:=by rw[ν];omega
   have d:=z1k h;have m:Hd (Lib.decDigits n=[UInt8.ofNat (48+n)]):=η (Lib.decDigits_one h);have F:=q2i (X:=[UInt8.ofNat (48+n)]) [48,49,50,51,52,53,54,55,56,57] (n:Int) ((n:Int)+1) n (n+1) rfl (by omega) (by omega) (by simp;omega) (by rw[List.drop_take,show n+1-n=1 by omega];exact d);clear d h;generalize UInt8.ofNat (48+n)=B at*;clear ih;go_enter Tryz.func99,Tryz.ntmps99;go_wp2_with fail;go_ret;exact⟨by rw[m.o];rfl,Ext.refl _⟩
  ·have C:decide ((n:Int)<(10:Int))=false:=ε (by omega)
   have x:(n:Int).tdiv 10=((n/10:Nat):Int):=by rw[Int.tdiv_eq_ediv_of_nonneg (by omega)];omega
   have G:(n:Int).tmod 10=((n % 10:Nat):Int):=by rw[Int.tmod_eq_emod_of_nonneg (by omega)];omega
   have I:IntKind.i64.wrap ((n/10:Nat):Int)=((n/10:Nat):Int):=by rw[ν];omega
   have m:Hd (Lib.decDigits n=Lib.decDigits (n/10)++[UInt8.ofNat (48+n % 10)]):=η (by rw[Lib.decDigits,dif_neg h]);have l:=η (ih (n/10) (by omega) (by omega));have j:=η (ih (n % 10) (by omega) (by omega));have y:Hd (Lib.decDigits (n % 10)=[UInt8.ofNat (48+n % 10)]):=η (Lib.decDigits_one (Nat.mod_lt _ (by decide)));have D:(Lib.decDigits (n/10)).length<=10:=q4S (by omega);have s:(Lib.decDigits (n % 10)).length<=10:=q4S (by omega);obtain⟨a,u⟩: ∃a:Int,((n/10:Nat):Int)=a:=⟨_,rfl⟩
   obtain⟨b,v⟩: ∃b:Int,((n % 10:Nat):Int)=b:=⟨_,rfl⟩
   rw[u] at x I l;rw[v] at G j;rw[y.o] at j s;generalize Lib.decDigits (n/10)=A at*;have J:¬(9223372036854775807<A.length+[UInt8.ofNat (48+n % 10)].length):=by omega
   generalize UInt8.ofNat (48+n % 10)=B at*;clear ih u v h E;go_enter Tryz.func99,Tryz.ntmps99;go_wp2_with fail;refine(l.o _).mono ?_;rintro e w1 ⟨rfl,i⟩;have q:=η i;clear i l;go_wp2_with fail;refine(j.o _).mono ?_;rintro e M ⟨rfl,i⟩;have r:=η (q.o.trans i);clear i j;go_wp2_with fail;go_ret;exact⟨by rw[m.o];rfl,r.o⟩
def z0t(s:List UInt8):Int:=match q5A s with|some n=>(n:Int)|none=> -1
theorem z9P{s:List UInt8}{k:Nat}(h:k<s.length):unD (s.take (k+1))=unD (s.take k)*10+((s.getD k 0).toNat-48):=by
 rw[List.take_succ_eq_append_getElem h];unfold unD;rw[List.foldl_append,δ,γ h]
 rfl
theorem q8m{s:List UInt8}(h:q5A s=some n):s.length<=10/\unD s=n/\s.all q1S=true:=by
 obtain⟨b,d⟩:=numU_iff.1 h;exact⟨by rw[<-b];exact q4S (by omega),by rw[<-b,z2h],by rw[<-b];exact z5g n⟩
theorem z4v(s:List UInt8)(hs:s.length<=1000000)(w:World):Calls Tryz.prog 98 #[.string ⟨s.toArray⟩] w fun e w'=>e= .returned (.int .i64 (z0t s))/\Ext w w':=by
 go_enter Tryz.func98,Tryz.ntmps98;go_wp2_with fail
 go_loopw [3,4] (fun n i W=> ∃(k N:Nat),k<=s.length/\k<=11/\i= .int .i64 (k:Int)/\n= .int .i64 (N:Int)/\Hd (N=unD (s.take k))/\N<10^k/\Ext w W) (fun _ i _=>11-(intOf i).toNat)
 case atStart=>exact⟨0,0,υ _,by omega,rfl,rfl,η rfl,by decide,Ext.refl _⟩
 case round =>
  obtain⟨k,N,hk,e0,rfl,rfl,x,y,l⟩:=hrel;have r:=η l;clear l;have hp:(10:Nat)^k<=10^11:=Nat.pow_le_pow_right (by decide) e0;have g0:N<=100000000000:=Ω (Nat.le_of_lt y) hp;by_cases X:k<s.length/\k<11
  ·obtain⟨V,o0⟩:=X
   have j0:decide ((k:Int)<(s.length:Int))=true:=ζ (by omega);have k0:decide ((k:Int)<11)=true:=ζ (by omega);obtain⟨c,hc⟩: ∃c,s[k]? =some c:=⟨_,γ V⟩
   have u:s.getD k 0=c:=by rw[δ,hc];rfl
   have Y:=z7k hc;have O:=η (z9P V);rw[u] at O;have i0:=c.toNat_lt;have I:Hd ((c.toNat<48\/57<c.toNat)->z0t s= -1):=η fun h=>by
    unfold z0t
    cases hq:q5A s with
    |none=>rfl
    | some n=>
     obtain⟨_,_,h3⟩:=q8m hq;have:=List.all_eq_true.1 h3 c (List.mem_of_getElem? hc);unfold q1S at this;simp at this;omega
   have n0:(k:Int)<(s.length:Int):=by omega
   have m0:(0:Int)<=(k:Int):=by omega
   by_cases B:c.toNat<48
   ·have E:=η (I.o (.inl B))
    have c0:decide ((c.toNat:Int)<48)=true:=ζ (by omega);clear hc u;go_wp2_with fail
    (try rw[Exit.noGoto_ret])
    go_ret;exact⟨by rw[E.o];rfl,r.o⟩
   have c0:decide ((c.toNat:Int)<48)=false:=ε (by omega);by_cases C:57<c.toNat
   ·have E:=η (I.o (.inr C))
    have d0:decide ((57:Int)<(c.toNat:Int))=true:=ζ (by omega);clear hc u;go_wp2_with fail
    (try rw[Exit.noGoto_ret])
    go_ret;exact⟨by rw[E.o];rfl,r.o⟩
   have d0:decide ((57:Int)<(c.toNat:Int))=false:=ε (by omega);obtain⟨d,hd⟩: ∃d:Nat,c.toNat=48+d:=⟨c.toNat-48,by omega⟩
   have l0:d<=9:=by omega
   have q1:IntKind.i64.wrap (10*(N:Int))=10*(N:Int):=by rw[ν];omega
   have q2:IntKind.u8.wrap ((c.toNat:Int)-48)=(d:Int):=by rw[IntKind.wrap_u8];omega
   have q3:IntKind.i64.wrap (d:Int)=(d:Int):=by rw[ν];omega
   have q4:IntKind.i64.wrap (10*(N:Int)+(d:Int))=10*(N:Int)+(d:Int):=by rw[ν];omega
   have q5:IntKind.i64.wrap ((k:Int)+1)=(k:Int)+1:=by rw[ν];omega
   have f0:(10:Nat)^(k+1)=10^k*10:=Nat.pow_succ 10 k;have Z:Hd (N*10+d<10^(k+1)):=η (by omega);have HD:Hd (c.toNat-48=d):=η (by omega);clear hc u f0 hp y;go_wp2_with fail
   go_roundw
   case rel=>exact⟨k+1,N*10+d,by omega,by omega,by go_num,by rw[show(10*(N:Int)+(48+(d:Int)-48))=((N*10+d:Nat):Int) by omega],η (by rw[O.o,<-x.o,HD.o]),Z.o,r.o⟩
   case measure=>simp[intOf];omega
  ·have hc:(¬k<s.length)\/(k<s.length/\¬(k:Int)<11):=by omega
   have J:Hd (∀m,q5A s=some m->N=m):=η fun m hm=>by
    obtain⟨B,C,_⟩:=q8m hm;have e:s.take k=s:=Δ (by omega);rw[x.o,e,C]
   have v:Hd ((1073741824<N\/Lib.decDigits N≠s)->z0t s= -1):=η fun h=>by
    unfold z0t
    cases hq:q5A s with
    |none=>rfl
    | some m=>
     have e:=J.o m hq;obtain⟨B,C⟩:=numU_iff.1 hq;rcases h with h|h
     ·omega
     ·rw[e] at h;exact absurd B h
   have M:Hd (N<=1073741824->Lib.decDigits N=s->z0t s=(N:Int)):=η fun B C=>by
    unfold z0t;rw[numU_iff.2 ⟨C,B⟩]
   clear X hp y x J;by_cases Y:1073741824<N
   ·have E:=η (v.o (.inl Y))
    have b0:decide ((1073741824:Int)<(N:Int))=true:=ζ (by omega);clear Y;rcases hc with hc|⟨hc,U⟩
    ·go_wp2_with fail
     go_ret;exact⟨by rw[E.o];rfl,r.o⟩
    ·go_wp2_with fail
     go_ret;exact⟨by rw[E.o];rfl,r.o⟩
   ·have b0:decide ((1073741824:Int)<(N:Int))=false:=ε (by omega)
    have q:=η (fun W=>q7E N (by omega) W);have Q:N<=1073741824:=by omega
    obtain⟨D,hD⟩: ∃D,Lib.decDigits N=D:=⟨_,rfl⟩
    rw[hD] at q v M;have a0: ∃b,(D==s)=b/\(b=false->z0t s= -1)/\(b=true->z0t s=(N:Int)):=by
     by_cases h:D=s
     ·exact⟨true,by rw[h];exact beq_self_eq_true s,(fun h=>by cases h),fun _=>M.o Q h⟩
     ·exact⟨false,beq_eq_false_iff_ne.2 h,fun _=>v.o (.inr h),fun h=>by cases h⟩
    obtain⟨b,h0,R,S⟩:=a0;have F:=η R;have G:=η S;clear hD Y R S
    cases b with
    | false=>
     rcases hc with hc|⟨hc,U⟩
     ·go_wp2_with fail
      refine(q.o _).mono ?_;rintro e w2 ⟨rfl,l⟩;have j:=η (r.o.trans l);clear l;go_wp2_with fail;go_ret;exact⟨by rw[F.o trivial];rfl,j.o⟩
     ·go_wp2_with fail
      refine(q.o _).mono ?_;rintro e w2 ⟨rfl,l⟩;have j:=η (r.o.trans l);clear l;go_wp2_with fail;go_ret;exact⟨by rw[F.o trivial];rfl,j.o⟩
    | true=>
     rcases hc with hc|⟨hc,U⟩
     ·go_wp2_with fail
      refine(q.o _).mono ?_;rintro e w2 ⟨rfl,l⟩;have j:=η (r.o.trans l);clear l;go_wp2_with fail;go_ret;exact⟨by rw[G.o trivial];rfl,j.o⟩
     ·go_wp2_with fail
      refine(q.o _).mono ?_;rintro e w2 ⟨rfl,l⟩;have j:=η (r.o.trans l);clear l;go_wp2_with fail;go_ret;exact⟨by rw[G.o trivial];rfl,j.o⟩
end
end Go.Proofs.YtfiibpgoplcgkaaGreatDoor
