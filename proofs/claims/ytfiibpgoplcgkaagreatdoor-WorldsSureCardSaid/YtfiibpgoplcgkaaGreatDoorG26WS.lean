/- Walks. -/
import Derived.Test.YtfiibpgoplcgkaaGreatDoorG25WS
import Derived.Test.YtfiibpgoplcgkaaGreatDoorG21WS
set_option linter.unusedVariables false
set_option linter.unusedSimpArgs false
set_option maxRecDepth 100000
set_option maxHeartbeats 6400000
namespace Go.Proofs.YtfiibpgoplcgkaaGreatDoor
variable {w:World}{xs:List Int}{ao:Option Addr}{n cap:Nat}
open Go.RowKit
theorem y3s{B:Nat}{e:TypeId}{v:Value}(h:w.ownsRow B e 1 v xs.length (xs.map (Value.int .u64))): ∃ao cap,v= .slice ao xs.length cap/\Us w ao xs.length cap xs:=by
 obtain⟨ao,cap,rfl,h1,h2,h3,h4⟩:=(Own.of_row h).rd;exact⟨ao,cap,rfl,rfl,h1,h2,h3,h4⟩
theorem Us.at(h:Us w ao n cap xs){j:Nat}(i:j<n): ∃b off,ao=some ⟨b,off,none⟩/\w.cell? ⟨b,off+j,none⟩=some (.int .u64 (xs.getD j 0)):=by
 have l:=h.len;have k:(xs.map (Value.int .u64))[j]? =some (.int .u64 (xs.getD j 0)):=by
  rw[List.getElem?_map,γ (by omega)];simp[List.getD,γ (show j<xs.length by omega)]
 obtain⟨b,off,rfl,d⟩:=h.rd _ _ k;exact⟨b,off,rfl,d⟩
theorem Tryz.infoU64 :(Tryz.prog.info? 23).map (fun i=>(i.zero,i.size,i.bytes))=some (some (.int .u64 0),1,8):=by kernel_rfl
theorem z9q{L:List En}(rate:Nat)(w:World)(hx:Ens w ao n cap L)(hn:n<=1000):
  Calls Tryz.prog 286 #[.slice ao n cap,.float .f64 rate] w fun r w'=> ∃s:List UInt8,r= .returned (.string ⟨s.toArray⟩)/\128<=s.length/\s.length<=64*(n/20+2)/\Ext w w':=by
 have Hx:=η hx;have b1:=hx.fits;have b2:=hx.bound;have q0:=η hx.len;clear hx;go_enter Tryz.func286,Tryz.ntmps286;go_wp2_with fail
 go_loopw [5,12] (fun v i W=> ∃(k m:Nat) (M:List Int),k<=n/\i= .int .i64 (k:Int)/\M.length=m/\m<=k/\W.ownsRow w.heap.size 23 1 v m (M.map (Value.int .u64))/\Ext w W) (fun _ i _=>n-(intOf i).toNat)
 case atStart=>exact⟨0,0,[],υ _,rfl,rfl,ι _,World.ownsRow_nil _ _ _ _,Ext.refl _⟩
 case round=>
  obtain⟨k,m,M,hk,rfl,I,hM,F,hb⟩:=hrel;have C:=η F;have J:=η hb;have V:=η I;obtain⟨va,vc,rfl,R⟩:=y3s (by rw[I];exact F);rw[I] at R C;have g0:=η R;have N:=η (hb:Ext w wr).size;rw[I];clear I;by_cases Q:k<n
  ·have hd:decide ((k:Int)<(n:Int))=true:=by simp;omega
   obtain⟨b,off,rfl,c0,c1,c2⟩:=(Hx.o.ext hb).at Q;generalize L.getD k en0=z at*;obtain⟨x,z2,z3⟩:=z;have u0:=q0D c0;have u1:=q0D c1;have u2:=q0D c2;clear F hb R;have n0:=q0D (show(wr.alloc (.cells #[.int .u64 x,.int .i64 z2,.int .i64 z3] 165)).cell? ⟨wr.heap.size,0,none⟩=some (.int .u64 x) from(Blk.new wr 165 #[.int .u64 x,.int .i64 z2,.int .i64 z3]).cell 0);have O:=η (q0C wr (.cells #[.int .u64 x,.int .i64 z2,.int .i64 z3] 165));by_cases Y:m=0
   ·have o0:((m:Int)==0)=true:=by rw[Y];rfl
    clear Y;go_wp2_with fail;refine q0E (by kernel_rfl) (by kernel_rfl) ?_
    repeat (go_big_quiet_step (fail))
    refine wpQuiet_nil ?_;intro D u;have d:=η (O.o.trans u);have E:Hd (Rd (D.alloc (.cells #[.int .u64 x] 23)) (some ⟨D.heap.size,0,none⟩) [.int .u64 x]):=η (Rd.lit D #[.int .u64 x] 23);have e0:D.cell? ⟨wr.heap.size,0,none⟩=some (.int .u64 x):=n0 ⟨D,u⟩;have G:=η d.o.size;clear u n0
    go_wp2_with (at_builtin;refine q0P rfl (.tmp 30) (.tmp 33) 402 rfl w.heap.size 23 _ 1 8 Tryz.underlying402 Tryz.infoU64 (by decide) (by decide) _ m (M.map (Value.int .u64)) rfl (q0J (q0J C.o d.o) (q0C _ _)) _ 1 1 [.int .u64 x] rfl rfl (fun h=>by cases h) E.o (by simp[Value.oneCell']) (by unfold maxLen;omega) (by omega) (by have:=N.o;have:=G.o;simp;omega) ?_;intro v2 w5 q l Z;obtain⟨a2,k2,rfl⟩:=q0H q;have X:=η q;have S:=η (q0z ((J.o.trans d.o).alloc _) (Own.of_row (q0J (q0J C.o d.o) (q0C _ _))) l (by have:=N.o;have:=G.o;simp;omega));clear q l Z)
    go_roundw
    case rel=>exact⟨k+1,m+1,M++[x],Q,by go_num,by simp;exact V.o,by omega,by rw[List.map_append];exact X.o,S.o⟩
    case measure=>simp[intOf];omega
   ·have o0:((m:Int)==0)=false:=by simpa using Y
    obtain⟨j,hj⟩: ∃j,m=j+1:=⟨m-1,by omega⟩
    have e1:IntKind.i64.wrap ((m:Int)-1)=(j:Int):=by rw[ν];omega
    obtain⟨b',r0,rfl,d0⟩:=g0.o.at (j:=j) (by omega);have d1:=q0D (q0A O.o d0);by_cases hz:M.getD j 0=x
    ·have hq:(M.getD j 0 !=x)=false:=by simpa using hz
     generalize M.getD j 0=y at*;have p0:j<m:=by omega
     clear hj;go_wp2_with fail;refine q0E (by kernel_rfl) (by kernel_rfl) ?_
     repeat (go_big_quiet_step (fail))
     refine wpQuiet_nil ?_;intro D u;have d:=η (O.o.trans u);have E:Hd (Rd (D.alloc (.cells #[.int .u64 x] 23)) (some ⟨D.heap.size,0,none⟩) [.int .u64 x]):=η (Rd.lit D #[.int .u64 x] 23);have e0:D.cell? ⟨wr.heap.size,0,none⟩=some (.int .u64 x):=n0 ⟨D,u⟩;have G:=η d.o.size;clear u n0;go_wp2_with fail
     go_roundw
     case rel=>exact⟨k+1,m,M,Q,by go_num,V.o,by omega,q0J C.o d.o,J.o.trans d.o⟩
     case measure=>simp[intOf];omega
    ·have hq:(M.getD j 0 !=x)=true:=by simpa using hz
     generalize M.getD j 0=y at*;have p0:j<m:=by omega
     clear hj;go_wp2_with fail;refine q0E (by kernel_rfl) (by kernel_rfl) ?_
     repeat (go_big_quiet_step (fail))
     refine wpQuiet_nil ?_;intro D u;have d:=η (O.o.trans u);have E:Hd (Rd (D.alloc (.cells #[.int .u64 x] 23)) (some ⟨D.heap.size,0,none⟩) [.int .u64 x]):=η (Rd.lit D #[.int .u64 x] 23);have e0:D.cell? ⟨wr.heap.size,0,none⟩=some (.int .u64 x):=n0 ⟨D,u⟩;have G:=η d.o.size;clear u n0
     go_wp2_with (at_builtin;refine q0P rfl (.tmp 30) (.tmp 33) 402 rfl w.heap.size 23 _ 1 8 Tryz.underlying402 Tryz.infoU64 (by decide) (by decide) _ m (M.map (Value.int .u64)) rfl (q0J (q0J C.o d.o) (q0C _ _)) _ 1 1 [.int .u64 x] rfl rfl (fun h=>by cases h) E.o (by simp[Value.oneCell']) (by unfold maxLen;omega) (by omega) (by have:=N.o;have:=G.o;simp;omega) ?_;intro v2 w5 q l Z;obtain⟨a2,k2,rfl⟩:=q0H q;have X:=η q;have S:=η (q0z ((J.o.trans d.o).alloc _) (Own.of_row (q0J (q0J C.o d.o) (q0C _ _))) l (by have:=N.o;have:=G.o;simp;omega));clear q l Z)
     go_roundw
     case rel=>exact⟨k+1,m+1,M++[x],Q,by go_num,by simp;exact V.o,by omega,by rw[List.map_append];exact X.o,S.o⟩
     case measure=>simp[intOf];omega
  ·have hd:decide ((k:Int)<(n:Int))=false:=by simp;omega
   have f0:=η (fun W=>y0T W rate);have b0:=η (fun W (p:Nat) h1 h2=>y2E W m p (by omega) h1 h2);clear F hb R;go_wp2_with fail;refine(f0.o _).mono ?_;rintro e w1 ⟨p,rfl,p1,a0,rfl⟩;go_wp2_with fail;refine(b0.o _ p p1 a0).mono ?_;rintro e w1 ⟨g,rfl,g1,g9,rfl⟩;have s0:g<=51:=by omega
   have e1:IntKind.i64.wrap ((g:Int)*60)=(g:Int)*60:=by rw[ν];omega
   have e2:IntKind.i64.wrap ((g:Int)*60*8)=((480*g:Nat):Int):=by rw[ν];omega
   have U:=η (y1R p (480*g) (60*g) wr g0.o (by omega) a0 (by omega) (by omega) (by omega));obtain⟨B,hB⟩: ∃B:Int,((480*g:Nat):Int)=B:=⟨_,rfl⟩
   rw[hB] at e2 U;have G9:Hd (g<=n/20+1):=η (by omega);clear hB f0 b0;go_wp2_with fail;refine U.o.mono ?_;rintro e w3 ⟨bs,rfl,j0,h0⟩;have k0:=η (J.o.trans h0);have m0:=η (y3m bs p g w3 j0 g1 (by omega) p1 a0);clear j0 h0 U;go_wp2_with fail;refine m0.o.mono ?_;rintro e w4 ⟨s,rfl,hs,i0⟩;have l0:=η (k0.o.trans i0);have HS:=η hs;clear hs i0;go_wp2_with fail;go_ret;have h1:=HS.o;have h2:=G9.o;exact⟨s,rfl,by omega,by omega,l0.o⟩
end Go.Proofs.YtfiibpgoplcgkaaGreatDoor
