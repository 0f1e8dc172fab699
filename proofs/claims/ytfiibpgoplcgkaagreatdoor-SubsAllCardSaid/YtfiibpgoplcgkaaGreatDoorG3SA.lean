/- The shelf's contract of strings.Trim at this seat, in plain words. -/
import Derived.Ground.NamesProg
import Derived.Shelf.Strings.SlTrimAscii
import Derived.Test.YtfiibpgoplcgkaaGreatDoorProg
import Derived.Test.YtfiibpgoplcgkaaGreatDoorG2SA
set_option linter.unusedVariables false
set_option linter.unusedSimpArgs false
set_option maxRecDepth 100000
set_option maxHeartbeats 3200000
namespace Go.Proofs
open Go.Shelf
def Tryz.lays160_ren :Go.Shelf.Ren:=⟨fun|160=>256|232=>301|231=>300|227=>302|234=>304|233=>303|236=>306|235=>305|228=>331|271=>334|151=>333|197=>332|120=>345|152=>344|260=>343|137=>351|119=>352|224=>353|225=>354|217=>358|266=>360|n=>n,fun|9=>9|4=>4|3=>3|5=>5|117=>380|116=>379|0=>0|124=>383|21=>21|105=>410|46=>272|119=>428|139=>431|138=>430|n=>n,fun|3=>6|4=>7|n=>n⟩
theorem Tryz.lays160 :Go.Proofs.Lays.n160 Tryz.prog Tryz.lays160_ren:={
 mixed:=by kernel_rfl
 f119:=Tryz.func352.trans (congrArg some (by kernel_rfl))
 f120:=Tryz.func345.trans (congrArg some (by kernel_rfl))
 f137:=Tryz.func351.trans (congrArg some (by kernel_rfl))
 f151:=Tryz.func333.trans (congrArg some (by kernel_rfl))
 f152:=Tryz.func344.trans (congrArg some (by kernel_rfl))
 f160:=Tryz.func256.trans (congrArg some (by kernel_rfl))
 f197:=Tryz.func332.trans (congrArg some (by kernel_rfl))
 f217:=Tryz.func358.trans (congrArg some (by kernel_rfl))
 f224:=Tryz.func353.trans (congrArg some (by kernel_rfl))
 f225:=Tryz.func354.trans (congrArg some (by kernel_rfl))
 f227:=Tryz.func302.trans (congrArg some (by kernel_rfl))
 f228:=Tryz.func331.trans (congrArg some (by kernel_rfl))
 f231:=Tryz.func300.trans (congrArg some (by kernel_rfl))
 f232:=Tryz.func301.trans (congrArg some (by kernel_rfl))
 f233:=Tryz.func303.trans (congrArg some (by kernel_rfl))
 f234:=Tryz.func304.trans (congrArg some (by kernel_rfl))
 f235:=Tryz.func305.trans (congrArg some (by kernel_rfl))
 f236:=Tryz.func306.trans (congrArg some (by kernel_rfl))
 f260:=Tryz.func343.trans (congrArg some (by kernel_rfl))
 f266:=Tryz.func360.trans (congrArg some (by kernel_rfl))
 f271:=Tryz.func334.trans (congrArg some (by kernel_rfl))
 t0:=Tryz.underlying0
 a0:=Tryz.isAgg0
 z0:=Tryz.sizeOf0
 v0:=Tryz.zeroValue0
 t3:=Tryz.underlying3
 a3:=Tryz.isAgg3
 z3:=Tryz.sizeOf3
 v3:=Tryz.zeroValue3
 t4:=Tryz.underlying4
 a4:=Tryz.isAgg4
 z4:=Tryz.sizeOf4
 v4:=Tryz.zeroValue4
 t5:=Tryz.underlying5
 a5:=Tryz.isAgg5
 z5:=Tryz.sizeOf5
 v5:=Tryz.zeroValue5
 t9:=Tryz.underlying9
 a9:=Tryz.isAgg9
 z9:=Tryz.sizeOf9
 v9:=Tryz.zeroValue9
 t21:=Tryz.underlying21
 a21:=Tryz.isAgg21
 z21:=Tryz.sizeOf21
 v21:=Tryz.zeroValue21
 t46:=Tryz.underlying272
 a46:=Tryz.isAgg272
 z46:=Tryz.sizeOf272
 v46:=Tryz.zeroValue272
 t105:=Tryz.underlying410
 a105:=Tryz.isAgg410
 z105:=Tryz.sizeOf410
 v105:=Tryz.zeroValue410
 t116:=Tryz.underlying379
 a116:=Tryz.isAgg379
 z116:=Tryz.sizeOf379
 t117:=Tryz.underlying380
 a117:=Tryz.isAgg380
 z117:=Tryz.sizeOf380
 v117:=Tryz.zeroValue380
 t119:=Tryz.underlying428
 a119:=Tryz.isAgg428
 z119:=Tryz.sizeOf428
 t124:=Tryz.underlying383
 a124:=Tryz.isAgg383
 z124:=Tryz.sizeOf383
 v124:=Tryz.zeroValue383
 t138:=Tryz.underlying430
 a138:=Tryz.isAgg430
 z138:=Tryz.sizeOf430
 v138:=Tryz.zeroValue430
 t139:=Tryz.underlying431
 a139:=Tryz.isAgg431
 z139:=Tryz.sizeOf431
 v139:=Tryz.zeroValue431
 g3:=by kernel_rfl
 g4:=by kernel_rfl}
end Go.Proofs
namespace Go.Proofs.YtfiibpgoplcgkaaGreatDoor
variable {r:List UInt8}{k:Nat}{u:UInt8}
section
open Go.RowKit
theorem Tryz.infoU8 :(Tryz.prog.info? 5).map (fun i=>(i.zero,i.size,i.bytes))=some (some (.int .u8 0),1,1):=by kernel_rfl
theorem y1z : ∀w,(convert 5 9 (.int .u8 99)).run Tryz.prog w= .ok (.string ⟨#[99]⟩) w:=fun _=>by kernel_rfl
theorem y2A : ∀w,(convert 5 9 (.int .u8 116)).run Tryz.prog w= .ok (.string ⟨#[116]⟩) w:=fun _=>by kernel_rfl
theorem y1y : ∀w,(convert 5 9 (.int .u8 98)).run Tryz.prog w= .ok (.string ⟨#[98]⟩) w:=fun _=>by kernel_rfl
theorem z8c(m:Nat):(48+(m:Int) % 10)=((UInt8.ofNat (48+m % 10)).toNat:Int):=by rw[q4b];omega
theorem y1Q(k n:Nat)(b:k<6):(List.replicate (6-k) (Value.int .u8 0)++(q5M k n).map q1R).set (5-k) (q1R (UInt8.ofNat (48+n/10^k % 10)))=List.replicate (6-(k+1)) (.int .u8 0)++(q5M (k+1) n).map q1R:=by
 rw[show 6-k=(6-(k+1))+1 from by omega,show 5-k=6-(k+1) from by omega];rw[List.replicate_succ',List.append_assoc,List.set_append];simp[q5M]
theorem z6Y(c:UInt8)(C n:Int)(w:World)(hC:C=(c.toNat:Int))(hcv: ∀w,(convert 5 9 (.int .u8 C)).run Tryz.prog w= .ok (.string ⟨#[c]⟩) w):
  Calls Tryz.prog 220 #[.int .u8 C,.int .i64 n] w fun e w'=>e= .returned (.string ⟨(q0C c n).toArray⟩)/\Ext w w':=by
 subst hC;by_cases h0:n<0
 ·have x:=η (q7F (c:=c) (n:=n) (by omega))
  clear hcv;go_enter Tryz.func220,Tryz.ntmps220;go_wp2_with fail;go_ret;exact⟨by rw[x.o];rfl,Ext.refl _⟩
 by_cases h1:999999<n
 ·have x:=η (q7F (c:=c) (n:=n) (by omega))
  clear hcv;go_enter Tryz.func220,Tryz.ntmps220;go_wp2_with fail;go_ret;exact⟨by rw[x.o];rfl,Ext.refl _⟩
 have x:=η (q0U (c:=c) (n:=n) (by omega));obtain⟨N,hN⟩: ∃N:Nat,n=(N:Int):=⟨n.toNat,by omega⟩
 subst hN;have O:N<=999999:=by omega
 have J:=η O;rw[Int.toNat_natCast] at x;obtain⟨i,V,X,d,D⟩:=info_parts Tryz.infoU8;have I:=η hcv;clear h0 h1 hcv;have b0:0<=(N:Int):=by omega
 have b1:(N:Int)<=999999:=by omega
 go_enter Tryz.func220,Tryz.ntmps220
 go_wp2_with (at_make;refine wpList_make_full _ rfl _ _ 75 rfl w.heap.size 5 i (.int .u8 0) 1 Tryz.underlying75 V X d .i64 .i64 _ _ 6 rfl rfl rfl rfl (by rw[D];omega) (by unfold maxLen;omega) (ι _) ?_;intro w2 q U)
 clear V X d D;have b:=Own.of_row q;rw[Nat.mul_one,show(madeCells (Value.int .u8 0).cells 6).toList=List.replicate 6 (.int .u8 0) from toList_madeCells_one _ _] at b;have B:Ext w w2:=(Ext.refl w).grown U (ι _) (fun k W=>by cases W);have M:=η b;have y:=η B;clear q U b B
 go_loopw [1,14] (fun v i w'=> ∃k m:Nat,k<=6/\i= .int .i64 k/\v= .int .i64 m/\m=N/10^k/\Own w' w.heap.size 5 1 (.slice (some ⟨w.heap.size,0,none⟩) 6 6) 6 (List.replicate (6-k) (.int .u8 0)++(q5M k N).map q1R)/\Ext w w') (fun _ i _=>6-(intOf i).toNat)
 case atStart=>exact⟨0,N,by omega,rfl,rfl,by simp,by simpa [q5M] using M.o,y.o⟩
 case round=>
  clear M y;obtain⟨k,m,W,rfl,rfl,hm,b,F⟩:=hrel;have R:=η hm;have a0:(m:Int)<=999999:=by have:=Nat.div_le_self N (10^k);have:=J.o;omega
  have Z:=η F;have M:=η b;clear hm;by_cases Q:k<6
  ·obtain⟨g,c',u,e,d1,d2,d3⟩:=b.cellE (j:=5-k) (by omega)
   cases e;have l:=b.stored (g:=w.heap.size) (cap:=6) rfl (j:=5-k) (q1R (UInt8.ofNat (48+N/10^k % 10)));rw[y1Q k N Q,<-R.o] at l;have s:=F.setCell (p:=⟨w.heap.size,5-k,none⟩) (ι _) (q1R (UInt8.ofNat (48+m % 10)));rw[show q1R (UInt8.ofNat (48+m % 10))= .int .u8 (48+(m:Int) % 10) from by rw[z8c]] at l s;have Y:=η l;have G:=η s;clear b F l s;go_wp2_with fail
   go_roundw
   case rel=>exact⟨k+1,m/10,by omega,by go_num,by go_num,by rw[R.o,Nat.div_div_eq_div_mul,Nat.pow_succ],Y.o,G.o⟩
   case measure=>simp[intOf];omega
  ·have E:k=6:=by omega
   rw[E,Nat.sub_self,List.replicate_zero,List.nil_append] at b;have S:=q4l (P:=Tryz.prog) wr 75 9 5 (a:=⟨w.heap.size,0,none⟩) (n:=6) (cap:=6) Tryz.underlying75 Tryz.underlying5 Tryz.underlying9 (q0Y 6 N) (by obtain⟨_,_,e,_,_,_,r⟩:=b.rd;cases e;exact r);have hcv:=I.o;clear E b F;go_wp2_with fail;go_ret;exact⟨by rw[x.o];rfl,Z.o⟩
theorem q3j(n:Int)(w:World):Calls Tryz.prog 161 #[.int .i64 n] w fun e w'=>e= .returned (.string ⟨(q0C 99 n).toArray⟩)/\Ext w w':=by
 go_enter Tryz.func161,Tryz.ntmps161;go_wp2_with fail;refine(z6Y 99 _ _ _ rfl y1z).mono ?_;rintro e w1 ⟨rfl,b⟩;have d:=η b;clear b;go_wp2_with fail;go_ret;exact⟨rfl,d.o⟩
theorem z7o(n:Int)(w:World):Calls Tryz.prog 236 #[.int .i64 n] w fun e w'=>e= .returned (.string ⟨(q0C 116 n).toArray⟩)/\Ext w w':=by
 go_enter Tryz.func236,Tryz.ntmps236;go_wp2_with fail;refine(z6Y 116 _ _ _ rfl y2A).mono ?_;rintro e w1 ⟨rfl,b⟩;have d:=η b;clear b;go_wp2_with fail;go_ret;exact⟨rfl,d.o⟩
theorem y0V(n:Int)(w:World):Calls Tryz.prog 239 #[.int .i64 n] w fun e w'=>e= .returned (.string ⟨(q0C 98 n).toArray⟩)/\Ext w w':=by
 go_enter Tryz.func239,Tryz.ntmps239;go_wp2_with fail;refine(z6Y 98 _ _ _ rfl y1y).mono ?_;rintro e w1 ⟨rfl,b⟩;have d:=η b;clear b;go_wp2_with fail;go_ret;exact⟨rfl,d.o⟩
def q1n(s:List UInt8):Bool:=decide (1<=s.length)&&decide (s.length<=32)
theorem z0N(s:List UInt8)(w:World)(j:s.length<=9223372036854775807):Calls Tryz.prog 91 #[.string ⟨s.toArray⟩] w fun e w'=>e= .returned (.bool (q1n s))/\Ext w w':=by
 by_cases b:s=[]
 ·subst b
  go_enter Tryz.func91,Tryz.ntmps91;go_wp2_with fail;go_ret;exact⟨rfl,Ext.refl _⟩
 have i:1<=s.length:=by cases s with|nil=>exact absurd rfl b|cons a r=>simp
 have he:(s==[])=false:=by simpa using b
 have d:Hd (q1n s=decide (s.length<=32)):=η (by unfold q1n;rw[ζ i,Bool.true_and]);clear b;go_enter Tryz.func91,Tryz.ntmps91;go_wp2_with fail;go_ret;exact⟨rb (by rw[d.o,decide_eq_decide];omega),Ext.refl _⟩
theorem z0T(h:r[k]? =some u):unD (r.take (k+1))=unD (r.take k)*10+(u.toNat-48):=by
 obtain⟨b,rfl⟩:=List.getElem?_eq_some_iff.1 h;rw[List.take_succ_eq_append_getElem b,z4Q]
theorem z3E(j:k<=6)(i:(r.take k).all q1Z=true):unD (r.take k)<1000000:=by
 have b:=y2t _ i;have d:(r.take k).length<=6:=Ω (List.length_take_le _ _) j;exact Ψ b (Nat.pow_le_pow_right (by decide) d)
theorem z4o(u:UInt8):q1Z u=true↔48<=u.toNat/\u.toNat<=57:=by
 unfold q1Z;rw[Ξ,decide_eq_true_iff,decide_eq_true_iff]
theorem z1G(c:UInt8):c=99\/c=116\/c=98\/(q2D c=false/\(c.toNat:Int)≠99/\(c.toNat:Int)≠116/\(c.toNat:Int)≠98):=by
 by_cases b:c=99
 ·exact .inl b
 by_cases d:c=116
 ·exact .inr (.inl d)
 by_cases i:c=98
 ·exact .inr (.inr (.inl i))
 refine .inr (.inr (.inr ⟨?_,?_,?_,?_⟩))
 ·unfold q2D;simp[b,d,i]
 ·intro h;exact b (UInt8.toNat_inj.1 (by show c.toNat=99;omega))
 ·intro h;exact d (UInt8.toNat_inj.1 (by show c.toNat=116;omega))
 ·intro h;exact i (UInt8.toNat_inj.1 (by show c.toNat=98;omega))
theorem y0R{s:List UInt8}(h:s[k]? =some u): ∀hk,(⟨s.toArray⟩:ByteArray)[k]'hk=u:=by
 obtain⟨hk,rfl⟩:=List.getElem?_eq_some_iff.1 h;intro b;rfl
end
section
open Go.RowKit Go.Shelf
theorem y2s(l:List UInt8)(w:World)(d:l.length<=9223372036854775807):
  Calls Tryz.prog 256 #[.string ⟨l.toArray⟩,.string ⟨#[48,49,50,51,52,53,54,55,56,57]⟩] w fun e w'=>e= .returned (.string ⟨(Lib.trimS l [48,49,50,51,52,53,54,55,56,57]).toArray⟩)/\Ext w w':=by
 have b:=Any.strings_Trim_laid Tryz.lays160 (by kernel_rfl) ⟨l.toArray⟩ ⟨#[48,49,50,51,52,53,54,55,56,57]⟩ w (by simpa [ByteArray.size] using d) (by decide) (ascii_of_all (by decide));exact b
theorem z2e(s:List UInt8)(w:World)(c0:s.length<=9223372036854775807):
  Calls Tryz.prog 196 #[.string ⟨s.toArray⟩] w fun e w'=>e= .returned (.tuple #[.int .u8 ((q1F s).1.toNat:Int),.int .i64 ((q1F s).2.1:Int),.bool (q1F s).2.2])/\Ext w w':=by
 by_cases S:s.length=7
 case neg=>
  have F:=η (q7z (s:=s) (fun h=>S h.1));have U:((s.length:Int) !=7)=true:=by simp;omega
  clear S;go_enter Tryz.func196,Tryz.ntmps196;go_wp2_with fail;go_ret3;exact⟨by rw[F.o];rfl,Ext.refl _⟩
 obtain⟨c,hc⟩: ∃c,s[0]? =some c:=⟨_,γ (by omega)⟩
 have N:s.getD 0 0=c:=by rw[δ,hc];rfl
 have f0:=y0R hc;have l:=η S;have q:=η N;have D:Hd ((s.drop 1).all q1Z=true->q2D (s.getD 0 0)=true->q1F s=(s.getD 0 0,unD (s.drop 1),true)):=η (fun h h2=>q9B ⟨l.o,h2,h⟩);have G:Hd ((s.drop 1).all q1Z=false->q1F s=(0,0,false)):=η (fun h=>q7z (fun Z=>by rw[h] at Z;exact absurd Z.2.2 (by simp)));have E:Hd (∀k,(s.drop 1)[k]? =s[k+1]?):=η (fun k=>by rw[List.getElem?_drop,Nat.add_comm]);have y:Hd ((s.drop 1).length=6):=η (by rw[List.length_drop,l.o]);have X:(s.take 7).tail=s.drop 1:=by rw[Δ (by omega)];simp
 have U:((s.length:Int) !=7)=false:=by simp;omega
 clear hc N;generalize s.drop 1=r at*;obtain⟨T,V⟩: ∃T,Lib.trimS r [48,49,50,51,52,53,54,55,56,57]=T:=⟨_,rfl⟩
 have B:=z3B r;rw[V] at B;have HT:=η V;have I:=η B;clear V B;go_enter Tryz.func196,Tryz.ntmps196;go_wp2_with fail;refine(y2s r _ (by have:=y.o;omega)).mono ?_;rw[HT.o];rintro e w1 ⟨rfl,M⟩;have Q:=η M;clear M X;by_cases d:T=[]
 case neg=>
  have F:=η (G.o (by rw[Bool.eq_false_iff];intro h;exact d (I.o.2 h)));have d0:(T==[])=false:=by simpa using d
  have e0:(T !=[])=true:=by simpa using d
  clear d;go_wp2_with fail;go_ret3;exact⟨by rw[F.o];rfl,Q.o⟩
 have O:=η (I.o.1 d);subst d;rcases z1G c with b|b|b|⟨b,n1,n2,n3⟩
 case inr.inr.inr=>
  have F:=η (q7z (s:=s) (fun h=>by rw[q.o,b] at h;exact absurd h.2.1 (by simp)));clear b;go_wp2_with fail;go_ret3;exact⟨by rw[F.o];rfl,Q.o⟩
 all_goals
  subst b;have HY:=η (D.o O.o (by rw[q.o];rfl));go_wp2_with fail
  go_loopw [3,21] (fun v i w'=> ∃j m:Nat,j<=6/\i= .int .i64 j/\v= .int .i64 m/\m=unD (r.take j)/\Ext w w') (fun _ i _=>6-(intOf i).toNat)
  case atStart=>exact⟨0,0,by omega,rfl,rfl,rfl,Q.o⟩
  case round=>
   obtain⟨j,m,g0,rfl,rfl,hm,M⟩:=hrel;have J:(r.take j).all q1Z=true:=List.all_eq_true.2 fun x hx=>List.all_eq_true.1 O.o x (List.mem_of_mem_take hx)
   have j0:(m:Int)<=999999:=by have:=z3E (by omega) J;omega
   have R:=η hm;have Y:=η M;clear hm M J;by_cases b:j<6
   ·obtain⟨u,C⟩: ∃u,r[j]? =some u:=⟨_,γ (by have:=y.o;omega)⟩
    have l0:=y0R (s:=s) (k:=j+1) (u:=u) (by rw[E.o] at C;exact C);have m0:=y0R (s:=s) (k:=1+j) (u:=u) (by rw[E.o,Nat.add_comm] at C;exact C);have HU:=η C;have h0:j+1<s.length:=by have:=l.o;omega
    have i0:1+j<s.length:=by have:=l.o;omega
    have hd:=(z4o u).1 (List.all_eq_true.1 O.o u (List.mem_of_getElem? C));have b0:48<=(u.toNat:Int):=by omega
    have a0:(u.toNat:Int)<=57:=by omega
    clear C hd;go_wp2_with fail
    go_roundw
    case rel=>exact⟨j+1,10*m+(u.toNat-48),by omega,by go_num,by go_num,by rw[z0T HU.o,<-R.o];omega,Y.o⟩
    case measure=>simp[intOf];omega
   ·have W:j=6:=by omega
    subst W;have ht:r.take 6=r:=Δ (by have:=y.o;omega);rw[ht] at R;have k0:0<s.length:=by have:=l.o;omega
    clear ht;go_wp2_with fail;go_ret3;exact⟨by rw[HY.o,q.o,R.o];rfl,Y.o⟩
end
end Go.Proofs.YtfiibpgoplcgkaaGreatDoor
