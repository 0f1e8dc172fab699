/- Walks. -/
import Derived.LaidEql
import Derived.Stop.Asserts
import Derived.RowKitTokens
import Derived.Test.YteabhdclmodefaaGreatDoorG37CX
set_option linter.unusedVariables false
set_option linter.unusedSimpArgs false
set_option maxRecDepth 100000
set_option maxHeartbeats 12800000
namespace Go.Proofs.YteabhdclmodefaaGreatDoor
section
open Go.RowKit Go.Extern.Stop Go.Stop Go.Extern
end
section
open Go.RowKit
section
variable {wb w W W':World}{g gs gw rate u n:Nat}{sd c s:Int}{bs:List Bt}{K K':Nat->Prop}
end
theorem z4L(sd:Int)(rate:Nat)(b:Int)(w:World)(r:0<=sd)(v:sd<18446744073709551616):
  Calls Tryz.prog 19 #[.agg #[.int .u64 sd,.float .f64 rate,.int .u16 b]] w fun e w'=> ∃g gs,e= .returned (.tuple #[.pointer (some ⟨g,0,none⟩),.pointer (some ⟨gs,0,none⟩),.bool true])/\SK w w' g gs rate sd 1048576 0 0 0 [] noI:=by
 have j:=q0B w (.cells #[.int .u64 sd,.float .f64 rate,.int .u16 b] 44);have i:=Blk.new w 44 #[.int .u64 sd,.float .f64 rate,.int .u16 b];have l:=η i;have m:=η j;have E:=η (fun W=>DkK.new24 W 1048576 (by decide) (by decide));clear j i;go_enter Tryz.func19,Tryz.ntmps19;go_wp2_with fail;refine(E.o _).mono ?_;rintro e w1 ⟨g,rfl,q⟩;have C:=DkK.base q;have d:=l.o.ext C;have F:=d.cell 0;have G:=d.cell 1;have y:=η ((DkK.sq (q.rebase m.o) sd r v).open (by omega) rate);clear q C d;go_wp2_with fail;refine y.o.mono ?_;rintro e I ⟨gs,rfl,B,x⟩;have D:=η B;clear B x y F G;go_wp2_with fail;go_ret3;exact⟨g,gs,rfl,D.o⟩
section
variable {wb w W W':World}{g gs gw rate u n:Nat}{sd c s:Int}{bs:List Bt}{K K':Nat->Prop}
end
section
variable {wb w W W':World}{g gs gw rate u n:Nat}{sd c s:Int}{bs:List Bt}{K K':Nat->Prop}
end
section
variable {wb w W W':World}{g gs rate u n:Nat}{sd c s:Int}{bs:List Bt}{K K':Nat->Prop}
theorem z1E(h:SK wb w g gs rate sd c s u n bs K)(I:n<=1000)(E:0<(tos bs).length)(t:List UInt8)(G:t.length<=1000000){L:List To}(B:q1u t=(L,0)):
  Calls Tryz.prog 16 #[.pointer (some ⟨gs,0,none⟩),.string ⟨t.toArray⟩] w fun e w'=>e= .returned (.tuple #[.int .i64 0,.int .i64 62])/\SK wb w' g gs rate sd c s u n bs K/\Stay K w w':=by
 have b:=z4w t w G;rw[B] at b;have b:=η b;have r:=η h;have M:decide ((0:Int)<((tos bs).length:Int))=true:=ζ (by omega);generalize y:tos bs=T at*;have j:=η y;clear B h y;go_enter Tryz.func16,Tryz.ntmps16;go_wp2_with fail;refine b.o.mono ?_;rintro e w1 ⟨v,rfl,h1,m⟩;obtain⟨ao,cap,rfl⟩:=q0G h1;have l:=(r.o.grow m).all I;rw[j.o] at l;have q:=η l;have d:=η (r.o.kExt m);clear h1 m l b;go_wp2_with fail;refine q.o.mono ?_;rintro e N ⟨v,rfl,h1,h2,h3,h4⟩;obtain⟨J,x,rfl⟩:=q0G h3;have C:=η (h1.beside (K':=K) fun i F=> .inl F);have D:=η (d.o.trans h2);clear h1 h2 h3 h4 q;go_wp2_with fail;go_ret2;exact⟨rfl,C.o,D.o⟩
end
abbrev coT :To:=⟨[115],1,⟨[116],[],0⟩⟩
theorem y2I :q1n [coT]=([],2):=by decide
theorem y2L :y0P [] [115] (-1) [⟨[116],[],0⟩]=0:=by decide
theorem y2H :q1n []=(q0W (q2k []),0):=rfl
theorem y2J :q1u (q0W (q2k []))=([],0):=z2Q rfl (fun t b=>by cases b) (by decide)
theorem y2K :(q0W (q2k [])).length=17:=by rw[q0h];rfl
theorem y2M :(q0W (q2k [])).take 13=[97,110,110,97,108,105,115,116,10,0,0,0,0]:=by
 unfold q0W;rw[List.take_append_of_le_length (by decide)]
 rfl
theorem z7H(w:World):Calls Tryz.prog 9 #[] w fun e w'=>e= .returned (.bool true)/\Ext w w':=by
 have R:=η (z4L 0 0 0 w (by decide) (by decide));have M:=η (fun W=>z1G W (Tos.empty W) (fun t l=>by cases l) (fun t l=>by cases l));rw[y2H] at M;have U:=η y2J;have E:=y2K;have d:=y2M;generalize q0W (q2k [])=T at*;have Z:=q2w T 13 13 rfl (by omega);rw[d] at Z;have S:((T.length:Int)==17)=true:=by rw[E];rfl
 clear d;go_enter Tryz.func9,Tryz.ntmps9;go_wp2_with fail;refine R.o.mono ?_;rintro e w1 ⟨g,gs,rfl,b⟩;have O:=η b;clear b R;go_wp2_with fail;refine(M.o _).mono ?_;rintro e J ⟨rfl,F⟩;have q:=η (O.o.grow F);clear F O M;have I:=q0B J (.cells #[.string ⟨#[115]⟩,.int .i64 1,.string ⟨#[116]⟩,.string ⟨#[]⟩,.float .f64 0] 68);have j:=z1G (ao:=some ⟨J.heap.size,0,none⟩) (n:=1) (cap:=1) (L:=[coT]) (J.alloc (.cells #[.string ⟨#[115]⟩,.int .i64 1,.string ⟨#[116]⟩,.string ⟨#[]⟩,.float .f64 0] 68))
  ⟨rfl,ι _,by decide,(fun h=>by cases h),Rd.lit J #[.string ⟨#[115]⟩,.int .i64 1,.string ⟨#[116]⟩,.string ⟨#[]⟩,.float .f64 0] 68⟩ (fun t l=>by rw[List.mem_singleton.1 l];exact⟨by decide,by decide,by decide⟩) (fun t l=>by rw[List.mem_singleton.1 l];decide)
 rw[y2I] at j;have v:=η j;have r:=η (q.o.grow I);clear I j q;go_wp2_with fail;refine v.o.mono ?_;rintro e N ⟨rfl,F⟩;have D:=r.o.grow F;have G:=q0B N (.cells #[.string ⟨#[116]⟩,.string ⟨#[]⟩,.float .f64 0] 66);have B:=Blk.new N 66 #[.string ⟨#[116]⟩,.string ⟨#[]⟩,.float .f64 0];have C:=D.more (K':=fun i=>i=N.heap.size) G fun i hi=> .inr (by rw[ρ];omega)
 have m:=η (C.append (by omega) [115] (by decide) (-1) (L:=[⟨[116],[],0⟩]) (fun W _ Y=>(by
  have:=(B.same (Y _ rfl)).evs (L:=[⟨[116],[],0⟩]) (k:=1) (by decide) (by decide)
  rwa [Δ (by decide)] at this)) (z8V (by decide)) (by decide) y2L)
 clear D G B C F v r;go_wp2_with fail;refine m.o.mono ?_;rintro e w4 ⟨x,y,X,rfl,b,_,h3⟩;rcases h3 with⟨h3,_⟩|⟨_,_,_,_,h3⟩|⟨_,rfl,rfl,rfl⟩
 ·exact absurd rfl h3
 ·omega
 have Q:=η (z1E b (by omega) (show 0<(tos ([]++[⟨[115],(q1U [] [115]).length,[⟨[116],[],0⟩]⟩])).length by decide) T (by omega) U.o);clear b m;go_wp2_with fail;refine Q.o.mono ?_;rintro e w5 ⟨rfl,b,_⟩;have V:=η b.base;clear b Q;go_wp2_with fail;go_ret;exact⟨rfl,V.o⟩
end
end Go.Proofs.YteabhdclmodefaaGreatDoor
