/- The shelf's contract of strconv.Atoi at this seat, in plain words. -/
import Derived.Shelf.LaysC
import Derived.Shelf.Strconv.AtoiAll
import Derived.Test.YtfiibpgoplcgkaaGreatDoorG8SA
import Derived.Test.YtfiibpgoplcgkaaGreatDoorG16SA
set_option linter.unusedVariables false
set_option linter.unusedSimpArgs false
set_option maxRecDepth 100000
set_option maxHeartbeats 6400000
namespace Go.Proofs
open Go.Shelf
def Tryz.atoi172_ren :Go.Shelf.Ren:=⟨fun|172=>154|244=>217|245=>218|247=>268|279=>269|280=>270|281=>271|282=>272|287=>315|316=>316|171=>95|205=>317|321=>336|322=>337|243=>155|246=>219|283=>273|284=>274|285=>275|286=>276|129=>255|317=>318|318=>319|319=>320|320=>321|337=>338|338=>339|n=>n,fun|9=>9|3=>3|75=>206|76=>207|4=>4|5=>5|167=>345|37=>75|0=>0|85=>346|2=>2|168=>348|53=>23|175=>393|46=>272|210=>396|127=>271|145=>416|143=>414|21=>21|171=>351|173=>353|212=>399|51=>269|20=>20|213=>400|232=>425|233=>426|80=>213|n=>n,fun|15=>1|16=>2|17=>3|18=>4|19=>5|n=>n⟩
theorem Tryz.atoi172 :Go.Proofs.LaysC.n172 Tryz.prog Tryz.atoi172_ren:={
 mixed:=by kernel_rfl
 f129:=Tryz.func255.trans (congrArg some (by kernel_rfl))
 f171:=Tryz.func95.trans (congrArg some (by kernel_rfl))
 f172:=Tryz.func154.trans (congrArg some (by kernel_rfl))
 f205:=Tryz.func317.trans (congrArg some (by kernel_rfl))
 f243:=Tryz.func155.trans (congrArg some (by kernel_rfl))
 f244:=Tryz.func217.trans (congrArg some (by kernel_rfl))
 f245:=Tryz.func218.trans (congrArg some (by kernel_rfl))
 f246:=Tryz.func219.trans (congrArg some (by kernel_rfl))
 f247:=Tryz.func268.trans (congrArg some (by kernel_rfl))
 f279:=Tryz.func269.trans (congrArg some (by kernel_rfl))
 f280:=Tryz.func270.trans (congrArg some (by kernel_rfl))
 f281:=Tryz.func271.trans (congrArg some (by kernel_rfl))
 f282:=Tryz.func272.trans (congrArg some (by kernel_rfl))
 f283:=Tryz.func273.trans (congrArg some (by kernel_rfl))
 f284:=Tryz.func274.trans (congrArg some (by kernel_rfl))
 f285:=Tryz.func275.trans (congrArg some (by kernel_rfl))
 f286:=Tryz.func276.trans (congrArg some (by kernel_rfl))
 f287:=Tryz.func315.trans (congrArg some (by kernel_rfl))
 f316:=Tryz.func316.trans (congrArg some (by kernel_rfl))
 f317:=Tryz.func318.trans (congrArg some (by kernel_rfl))
 f318:=Tryz.func319.trans (congrArg some (by kernel_rfl))
 f319:=Tryz.func320.trans (congrArg some (by kernel_rfl))
 f320:=Tryz.func321.trans (congrArg some (by kernel_rfl))
 f321:=Tryz.func336.trans (congrArg some (by kernel_rfl))
 f322:=Tryz.func337.trans (congrArg some (by kernel_rfl))
 f337:=Tryz.func338.trans (congrArg some (by kernel_rfl))
 f338:=Tryz.func339.trans (congrArg some (by kernel_rfl))
 t0:=Tryz.underlying0
 a0:=Tryz.isAgg0
 z0:=Tryz.sizeOf0
 v0:=Tryz.zeroValue0
 t2:=Tryz.underlying2
 a2:=Tryz.isAgg2
 z2:=Tryz.sizeOf2
 v2:=Tryz.zeroValue2
 t3:=Tryz.underlying3
 a3:=Tryz.isAgg3
 z3:=Tryz.sizeOf3
 v3:=Tryz.zeroValue3
 t4:=Tryz.underlying4
 a4:=Tryz.isAgg4
 z4:=Tryz.sizeOf4
 v4:=Tryz.zeroValue4
 t5:=Tryz.underlying5
 a5:=Tryz.isAgg5
 z5:=Tryz.sizeOf5
 v5:=Tryz.zeroValue5
 t9:=Tryz.underlying9
 a9:=Tryz.isAgg9
 z9:=Tryz.sizeOf9
 v9:=Tryz.zeroValue9
 t20:=Tryz.underlying20
 a20:=Tryz.isAgg20
 z20:=Tryz.sizeOf20
 v20:=Tryz.zeroValue20
 t21:=Tryz.underlying21
 a21:=Tryz.isAgg21
 z21:=Tryz.sizeOf21
 v21:=Tryz.zeroValue21
 t37:=Tryz.underlying75
 a37:=Tryz.isAgg75
 z37:=Tryz.sizeOf75
 v37:=Tryz.zeroValue75
 t46:=Tryz.underlying272
 a46:=Tryz.isAgg272
 z46:=Tryz.sizeOf272
 v46:=Tryz.zeroValue272
 t51:=Tryz.underlying269
 a51:=Tryz.isAgg269
 z51:=Tryz.sizeOf269
 v51:=Tryz.zeroValue269
 t53:=Tryz.underlying23
 a53:=Tryz.isAgg23
 z53:=Tryz.sizeOf23
 v53:=Tryz.zeroValue23
 t75:=Tryz.underlying206
 a75:=Tryz.isAgg206
 z75:=Tryz.sizeOf206
 v75:=Tryz.zeroValue206
 t76:=Tryz.underlying207
 a76:=Tryz.isAgg207
 z76:=Tryz.sizeOf207
 v76:=Tryz.zeroValue207
 t85:=Tryz.underlying346
 a85:=Tryz.isAgg346
 z85:=Tryz.sizeOf346
 v85:=Tryz.zeroValue346
 t127:=Tryz.underlying271
 a127:=Tryz.isAgg271
 z127:=Tryz.sizeOf271
 v127:=Tryz.zeroValue271
 t143:=Tryz.underlying414
 a143:=Tryz.isAgg414
 z143:=Tryz.sizeOf414
 v143:=Tryz.zeroValue414
 t145:=Tryz.underlying416
 a145:=Tryz.isAgg416
 z145:=Tryz.sizeOf416
 v145:=Tryz.zeroValue416
 t167:=Tryz.underlying345
 a167:=Tryz.isAgg345
 z167:=Tryz.sizeOf345
 v167:=Tryz.zeroValue345
 t168:=Tryz.underlying348
 a168:=Tryz.isAgg348
 z168:=Tryz.sizeOf348
 v168:=Tryz.zeroValue348
 t171:=Tryz.underlying351
 a171:=Tryz.isAgg351
 z171:=Tryz.sizeOf351
 v171:=Tryz.zeroValue351
 t173:=Tryz.underlying353
 a173:=Tryz.isAgg353
 z173:=Tryz.sizeOf353
 v173:=Tryz.zeroValue353
 t175:=Tryz.underlying393
 a175:=Tryz.isAgg393
 z175:=Tryz.sizeOf393
 v175:=Tryz.zeroValue393
 t210:=Tryz.underlying396
 a210:=Tryz.isAgg396
 z210:=Tryz.sizeOf396
 v210:=Tryz.zeroValue396
 t212:=Tryz.underlying399
 a212:=Tryz.isAgg399
 z212:=Tryz.sizeOf399
 v212:=Tryz.zeroValue399
 t213:=Tryz.underlying400
 a213:=Tryz.isAgg400
 z213:=Tryz.sizeOf400
 t232:=Tryz.underlying425
 a232:=Tryz.isAgg425
 z232:=Tryz.sizeOf425
 v232:=Tryz.zeroValue425
 t233:=Tryz.underlying426
 a233:=Tryz.isAgg426
 z233:=Tryz.sizeOf426
 v233:=Tryz.zeroValue426
 g15:=by kernel_rfl
 g16:=by kernel_rfl
 g17:=by kernel_rfl
 g18:=by kernel_rfl
 g19:=by kernel_rfl
 t80:=Tryz.underlying213
 a80:=Tryz.isAgg213
 z80:=Tryz.sizeOf213
 v80:=Tryz.zeroValue213
 i0:=by kernel_rfl
 i2:=by kernel_rfl
 i3:=by kernel_rfl
 i4:=by kernel_rfl
 i5:=by kernel_rfl
 i9:=by kernel_rfl
 i20:=by kernel_rfl
 i21:=by kernel_rfl
 i37:=by kernel_rfl
 i46:=by kernel_rfl
 i51:=by kernel_rfl
 i53:=by kernel_rfl
 i75:=by kernel_rfl
 i76:=by kernel_rfl
 i80:=by kernel_rfl
 i85:=by kernel_rfl
 i127:=by kernel_rfl
 i143:=by kernel_rfl
 i145:=by kernel_rfl
 i167:=by kernel_rfl
 i168:=by kernel_rfl
 i171:=by kernel_rfl
 i173:=by kernel_rfl
 i175:=by kernel_rfl
 i210:=by kernel_rfl
 i212:=by kernel_rfl
 i232:=by kernel_rfl
 i233:=by kernel_rfl
 m15:=by kernel_rfl
 m16:=by kernel_rfl
 m17:=by kernel_rfl
 m18:=by kernel_rfl
 m19:=by kernel_rfl
 c0:=by kernel_rfl
 c2:=by kernel_rfl
 c3:=by kernel_rfl
 c4:=by kernel_rfl
 c5:=by kernel_rfl
 c9:=by kernel_rfl
 c20:=by kernel_rfl
 c21:=by kernel_rfl
 c37:=by kernel_rfl
 c46:=by kernel_rfl
 c51:=by kernel_rfl
 c53:=by kernel_rfl
 c75:=by kernel_rfl
 c76:=by kernel_rfl
 c80:=by kernel_rfl
 c85:=by kernel_rfl
 c127:=by kernel_rfl
 c143:=by kernel_rfl
 c145:=by kernel_rfl
 c167:=by kernel_rfl
 c168:=by kernel_rfl
 c171:=by kernel_rfl
 c173:=by kernel_rfl
 c175:=by kernel_rfl
 c210:=by kernel_rfl
 c212:=by kernel_rfl
 c213:=by kernel_rfl
 c232:=by kernel_rfl
 c233:=by kernel_rfl}
end Go.Proofs
namespace Go.Proofs.YtfiibpgoplcgkaaGreatDoor
variable {n:Nat}{W W':World}
section
open Go.RowKit
def q8T(s:List UInt8):Option Nat:=if Lib.decDigits (unD s)=s/\unD s<=1073741824 then some (unD s) else none
theorem numU_iff{s:List UInt8}:q8T s=some n↔Lib.decDigits n=s/\n<=1073741824:=by
 unfold q8T
 constructor
 ·intro h
  split at h
  ·rename_i hc;cases h;exact hc
  ·cases h
 ·rintro⟨b,d⟩
  have e:unD s=n:=by rw[<-b,z7x]
  rw[e,ξ ⟨b,d⟩]
theorem z3d : ∀(l:List UInt8) (a:Nat),a<=l.foldl (fun n c=>n*10+(c.toNat-48)) a
 |[],a=>ι _
 |c::r,a=>Ω (by omega) (z3d r (a*10+(c.toNat-48)))
theorem q9C : ∀(l:List UInt8) (a:Nat),l.all q1Z=true->l.foldl (fun n c=>n*10+(c.toNat-48)) a<=1073741824->Lib.parseUint10 a l= .ok (l.foldl (fun n c=>n*10+(c.toNat-48)) a)
 |[],a,_,_=>rfl
 | c ::r,a,h,hb=>by
  rw[List.all_cons,Ξ] at h;rw[List.foldl_cons] at hb⊢;have hc:48<=c.toNat/\c.toNat<=57:=by
   have:=h.1;unfold q1Z at this
   simpa using this
  have b:=z3d r (a*10+(c.toNat-48));rw[Lib.parseUint10,ξ hc,κ (by omega),κ (by omega)];exact q9C r _ h.2 hb
theorem z3K(l:n<=1073741824):Lib.atoiAll (Lib.decDigits n)= .ok (n:Int):=by
 have b:=y0Z n;have i:=z7x n;have j:Lib.parseUint10 0 (Lib.decDigits n)= .ok n:=by
  have:=q9C (Lib.decDigits n) 0 b (by unfold unD at i;omega);rw[this];unfold unD at i;rw[i]
 have d:=y2B n
 cases hL:Lib.decDigits n with
 |nil=>exact absurd hL d
 | cons c r=>
  rw[hL] at b j;rw[List.all_cons,Ξ] at b;have hc:48<=c.toNat/\c.toNat<=57:=by
   have:=b.1;unfold q1Z at this
   simpa using this
  rw[Lib.atoiAll_plain c r (by omega) (by omega)];unfold Lib.parseMag;rw[κ (by simp),j];unfold Lib.signless;simp only;rw[κ (by omega)]
def ErrW(W:World):Prop:=(∃t p,W.cell? ⟨1,0,none⟩=some (.iface t p))/\ ∃t p,W.cell? ⟨2,0,none⟩=some (.iface t p)
theorem ErrW.ext(h:ErrW W)(k:Ext W W'):ErrW W':=by
 obtain⟨⟨t,p,b⟩,u,q,d⟩:=h;exact⟨⟨t,p,q0A k b⟩,u,q,q0A k d⟩
theorem y1t(s:List UInt8)(l:s.length<=1000000)(w:World)(he:ErrW w):Calls Tryz.prog 154 #[.string ⟨s.toArray⟩] w fun e w'=> ∃v b,e= .returned (.tuple #[.int .i64 v,b])/\Ext w w'/\
  ((b= .nilIface/\Lib.atoiAll s= .ok v)\/((∃t N,b= .iface t (.pointer (some ⟨N,0,none⟩)))/\ ∀x,Lib.atoiAll s≠ .ok x)):=by
 obtain⟨⟨t,p,i⟩,u,q,j⟩:=he;rcases ha:Lib.atoiAll s with v|_|_
 ·refine(Any.strconv_Atoi_ok Tryz.atoi172 ⟨s.toArray⟩ (by simp[ByteArray.size];omega) v ha w).mono ?_
  rintro e w' ⟨rfl,rfl|⟨t,rfl⟩⟩
  ·exact⟨v,_,rfl,Ext.refl _,.inl ⟨rfl,rfl⟩⟩
  ·exact⟨v,_,rfl,Lib.bytesWorld_below _ _ _,.inl ⟨rfl,rfl⟩⟩
 ·refine(Any.strconv_Atoi_syntax Tryz.atoi172 ⟨s.toArray⟩ (by simp[ByteArray.size];omega) ha _ w i (.inr ⟨_,_,rfl⟩)).mono ?_
  rintro e w' ⟨N,rfl,_,_,h⟩;exact⟨0,_,rfl,h,.inr ⟨⟨_,_,rfl⟩,fun x d=>by cases d⟩⟩
 ·refine(Any.strconv_Atoi_range Tryz.atoi172 ⟨s.toArray⟩ (by simp[ByteArray.size];omega) ha _ w j (.inr ⟨_,_,rfl⟩)).mono ?_
  rintro e w' ⟨N,rfl,_,_,h⟩;exact⟨_,_,rfl,h,.inr ⟨⟨_,_,rfl⟩,fun x d=>by cases d⟩⟩
def SbW(W:World):Prop:=TabW W/\ErrW W
theorem SbW.ext(h:SbW W)(k:Ext W W'):SbW W':=⟨h.1.ext k,h.2.ext k⟩
def y1h(s:List UInt8)(v:Int)(b:Bool):Prop:=(b=true->q8T s=some v.toNat/\0<=v)/\(b=false->q8T s=none)
theorem z5J(s:List UInt8)(U:s.length<=1000000)(w:World)(J:SbW w):Calls Tryz.prog 93 #[.string ⟨s.toArray⟩] w fun e w'=> ∃v b,e= .returned (.tuple #[.int .i64 v,.bool b])/\Ext w w'/\y1h s v b:=by
 have u:=η (y1t s U w J.2);have O:=η (fun W (k:Ext w W)=>J.1.ext k);clear J;go_enter Tryz.func93,Tryz.ntmps93;go_wp2_with fail;refine u.o.mono ?_;rintro e w1 ⟨v,Y,rfl,j,hc⟩;have q:=η j;have B:=η (O.o w1 j);rcases hc with⟨rfl,hc⟩|⟨⟨t,N,rfl⟩,hc⟩
 ·have V:=η hc
  have r: ∀n,q8T s=some n->(n:Int)=v:=fun n r=>by
   obtain⟨l,E⟩:=numU_iff.1 r;have:=z3K E;rw[l,hc] at this;injection this with this;exact this.symm
  have y:=η r;clear j hc r u;by_cases C:0<=v
  case neg=>
   have Q:decide ((0:Int)<=v)=false:=ε C
   have d:Hd (y1h s v false):=η ⟨(fun h=>by cases h),fun _=>by
    cases hq:q8T s with
    |none=>rfl
    |some n=>have:=y.o n hq;omega⟩
   go_wp2_with fail;go_ret2;exact⟨v,false,rfl,q.o,d.o⟩
  by_cases l:v<=1073741824
  case neg=>
   have Q:decide (v<=1073741824)=false:=ε l
   have d:Hd (y1h s v false):=η ⟨(fun h=>by cases h),fun _=>by
    cases hq:q8T s with
    |none=>rfl
    |some n=>have:=y.o n hq;have:=(numU_iff.1 hq).2;omega⟩
   go_wp2_with fail;go_ret2;exact⟨v,false,rfl,q.o,d.o⟩
  obtain⟨n,rfl⟩: ∃n:Nat,v=(n:Int):=⟨v.toNat,by omega⟩
  have R:decide ((0:Int)<=(n:Int))=true:=ζ C;have S:decide ((n:Int)<=1073741824)=true:=ζ l;have x:=η (y0C n (by omega) w1 B.o);obtain⟨D,F⟩: ∃D,Lib.decDigits n=D:=⟨_,rfl⟩
  rw[F] at x;have I:n<=1073741824:=by omega
  go_wp2_with fail;refine x.o.mono ?_;rintro e Z ⟨rfl,j⟩;have m:=η (q.o.trans j);clear j x;by_cases i:D=s
  ·subst i
   have G:(D==D)=true:=beq_self_eq_true D;have d:Hd (y1h D (n:Int) true):=η ⟨fun _=>⟨numU_iff.2 ⟨F,I⟩,C⟩,fun h=>by cases h⟩;go_wp2_with fail;go_ret2;exact⟨(n:Int),true,rfl,m.o,d.o⟩
  ·have G:(D==s)=false:=beq_eq_false_iff_ne.2 i
   have d:Hd (y1h s (n:Int) false):=η ⟨(fun h=>by cases h),fun _=>by
    cases hq:q8T s with
    |none=>rfl
    | some k=>
     have X:=y.o k hq;obtain⟨M,_⟩:=numU_iff.1 hq;rw[show k=n by omega,F] at M
     exact absurd M i⟩
   go_wp2_with fail;go_ret2;exact⟨(n:Int),false,rfl,m.o,d.o⟩
 ·have d:Hd (y1h s v false):=η ⟨(fun h=>by cases h),fun _=>by
   cases hq:q8T s with
   |none=>rfl
   | some n=>
    obtain⟨l,E⟩:=numU_iff.1 hq;have:=z3K E;rw[l] at this
    exact absurd this (hc _)⟩
  clear j hc u;go_wp2_with fail;go_ret2;exact⟨v,false,rfl,q.o,d.o⟩
end
end Go.Proofs.YtfiibpgoplcgkaaGreatDoor
