/- Walks. -/
import Derived.LaidEql
import Derived.Stop.Asserts
import Derived.RowKitTokens
import Derived.Test.YteabhdclmodefaaGreatDoorG38CN
set_option linter.unusedVariables false
set_option linter.unusedSimpArgs false
set_option maxRecDepth 100000
set_option maxHeartbeats 12800000
namespace Go.Proofs.YteabhdclmodefaaGreatDoor
variable {p:Option Addr}{L:List To}
section
open Go.RowKit Go.Extern.Stop Go.Stop Go.Extern
end
section
open Go.RowKit
section
variable {wb w W W':World}{g gs gw rate u n:Nat}{sd c s:Int}{bs:List Bt}{K K':Nat->Prop}
end
theorem z3g(sd:Int)(rate:Nat)(b:Int)(w:World)(r:0<=sd)(v:sd<18446744073709551616):
  Calls Tryz.prog 19 #[.agg #[.int .u64 sd,.float .f64 rate,.int .u16 b]] w fun e w'=> ∃g gs,e= .returned (.tuple #[.pointer (some ⟨g,0,none⟩),.pointer (some ⟨gs,0,none⟩),.bool true])/\SK w w' g gs rate sd 1048576 0 0 0 [] noI:=by
 have j:=q0B w (.cells #[.int .u64 sd,.float .f64 rate,.int .u16 b] 44);have i:=Blk.new w 44 #[.int .u64 sd,.float .f64 rate,.int .u16 b];have l:=η i;have m:=η j;have E:=η (fun W=>DkK.new24 W 1048576 (by decide) (by decide));clear j i;go_enter Tryz.func19,Tryz.ntmps19;go_wp2_with fail;refine(E.o _).mono ?_;rintro e w1 ⟨g,rfl,q⟩;have C:=DkK.base q;have d:=l.o.ext C;have F:=d.cell 0;have G:=d.cell 1;have y:=η ((DkK.sq (q.rebase m.o) sd r v).open (by omega) rate);clear q C d;go_wp2_with fail;refine y.o.mono ?_;rintro e I ⟨gs,rfl,B,x⟩;have D:=η B;clear B x y F G;go_wp2_with fail;go_ret3;exact⟨g,gs,rfl,D.o⟩
section
variable {wb w W W':World}{g gs gw rate u n:Nat}{sd c s:Int}{bs:List Bt}{K K':Nat->Prop}
end
section
variable {wb w W W':World}{g gs gw rate u n:Nat}{sd c s:Int}{bs:List Bt}{K K':Nat->Prop}
end
section
variable {wb w W W':World}{g gs rate u n:Nat}{sd c s:Int}{bs:List Bt}{K K':Nat->Prop}
theorem z4N{w:World}(h:y0Q w p):
  Calls Tryz.prog 15 #[.pointer p] w fun e w'=>e= .returned (.tuple #[.string ⟨#[]⟩,.int .i64 1])/\Ext w w':=by
 have b:=η (z7i h);have d:=η (Ext.refl w);clear h;go_enter Tryz.func15,Tryz.ntmps15;go_wp2_with fail;refine b.o.mono ?_;rintro e w1 ⟨rfl,rfl⟩;go_wp2_with fail;go_ret2;exact⟨rfl,d.o⟩
theorem z1p(s:List UInt8):q1y s=([],10)\/ ∃L,q1y s=(L,0):=by
 rcases q7g s with h|⟨L,_,h⟩
 ·exact .inl h
 ·exact .inr ⟨L,h⟩
theorem z3G(t:List UInt8)(l:t.length<=1000000)(d:q1y t=([],10))(w:World):
  Calls Tryz.prog 16 #[.pointer p,.string ⟨t.toArray⟩] w fun e w'=>e= .returned (.tuple #[.int .i64 0,.int .i64 10])/\Ext w w':=by
 have b:=q8W t w l;rw[d] at b;have b:=η b;clear d;go_enter Tryz.func16,Tryz.ntmps16;go_wp2_with fail;refine b.o.mono ?_;rintro e w1 ⟨v,rfl,h1,i⟩;obtain⟨ao,cap,rfl⟩:=q0H h1;have j:=η i;clear h1 i;go_wp2_with fail;go_ret2;exact⟨rfl,j.o⟩
theorem q6Y(t:List UInt8)(m:t.length<=1000000)(j:q1y t=(L,0))(h: ∀W,Ext w W->y0Q W p):
  Calls Tryz.prog 16 #[.pointer p,.string ⟨t.toArray⟩] w fun e w'=>e= .returned (.tuple #[.int .i64 0,.int .i64 1])/\Ext w w':=by
 have b:=q8W t w m;rw[j] at b;have b:=η b;have l:=η (fun W (d:Ext w W)=>z7i (h W d));clear j h;go_enter Tryz.func16,Tryz.ntmps16;go_wp2_with fail;refine b.o.mono ?_;rintro e w1 ⟨v,rfl,h1,d⟩;obtain⟨ao,cap,rfl⟩:=q0H h1;have i:=η d;clear h1 d;go_wp2_with fail;refine(l.o _ i.o).mono ?_;rintro e q ⟨rfl,rfl⟩;go_wp2_with fail;go_ret2;exact⟨rfl,i.o⟩
theorem z0j(h:SK wb w g gs rate sd c s u n bs K)(I:n<=1000)(E:0<(tos bs).length)(t:List UInt8)(G:t.length<=1000000)(B:q1y t=(L,0)):
  Calls Tryz.prog 16 #[.pointer (some ⟨gs,0,none⟩),.string ⟨t.toArray⟩] w fun e w'=>e= .returned (.tuple #[.int .i64 0,.int .i64 62])/\SK wb w' g gs rate sd c s u n bs K/\Stay K w w':=by
 have b:=q8W t w G;rw[B] at b;have b:=η b;have r:=η h;have M:decide ((0:Int)<((tos bs).length:Int))=true:=ζ (by omega);generalize y:tos bs=T at*;have j:=η y;clear B h y;go_enter Tryz.func16,Tryz.ntmps16;go_wp2_with fail;refine b.o.mono ?_;rintro e w1 ⟨v,rfl,h1,m⟩;obtain⟨ao,cap,rfl⟩:=q0H h1;have l:=(r.o.grow m).all I;rw[j.o] at l;have q:=η l;have d:=η (r.o.kExt m);clear h1 m l b;go_wp2_with fail;refine q.o.mono ?_;rintro e N ⟨v,rfl,h1,h2,h3,h4⟩;obtain⟨J,x,rfl⟩:=q0H h3;have C:=η (h1.beside (K':=K) fun i F=> .inl F);have D:=η (d.o.trans h2);clear h1 h2 h3 h4 q;go_wp2_with fail;go_ret2;exact⟨rfl,C.o,D.o⟩
end
abbrev coT :To:=⟨[115],1,⟨[116],[],0⟩⟩
theorem y1B :q5u [coT]=([],2):=by decide
theorem y1C :z9I [] [115] (-1) [⟨[116],[],0⟩]=0:=by decide
theorem y0q :q5u []=(q0g (q3u []),0):=rfl
theorem y0r :q1y (q0g (q3u []))=([],0):=z6K rfl (fun t b=>by cases b) (by decide)
theorem y0s :(q0g (q3u [])).length=17:=by rw[q0i];rfl
theorem y1D :(q0g (q3u [])).take 13=[97,110,110,97,108,105,115,116,10,0,0,0,0]:=by
 unfold q0g;rw[List.take_append_of_le_length (by decide)]
 rfl
theorem z6P(w:World):Calls Tryz.prog 9 #[] w fun e w'=>e= .returned (.bool true)/\Ext w w':=by
 have R:=η (z3g 0 0 0 w (by decide) (by decide));have M:=η (fun W=>z0l W (Tos.empty W) (fun t l=>by cases l) (fun t l=>by cases l));rw[y0q] at M;have U:=η y0r;have E:=y0s;have d:=y1D;generalize q0g (q3u [])=T at*;have Z:=q3J T 13 13 rfl (by omega);rw[d] at Z;have S:((T.length:Int)==17)=true:=by rw[E];rfl
 clear d;go_enter Tryz.func9,Tryz.ntmps9;go_wp2_with fail;refine R.o.mono ?_;rintro e w1 ⟨g,gs,rfl,b⟩;have O:=η b;clear b R;go_wp2_with fail;refine(M.o _).mono ?_;rintro e J ⟨rfl,F⟩;have q:=η (O.o.grow F);clear F O M;have I:=q0B J (.cells #[.string ⟨#[115]⟩,.int .i64 1,.string ⟨#[116]⟩,.string ⟨#[]⟩,.float .f64 0] 68);have j:=z0l (ao:=some ⟨J.heap.size,0,none⟩) (n:=1) (cap:=1) (L:=[coT]) (J.alloc (.cells #[.string ⟨#[115]⟩,.int .i64 1,.string ⟨#[116]⟩,.string ⟨#[]⟩,.float .f64 0] 68))
  ⟨rfl,ι _,by decide,(fun h=>by cases h),Rd.lit J #[.string ⟨#[115]⟩,.int .i64 1,.string ⟨#[116]⟩,.string ⟨#[]⟩,.float .f64 0] 68⟩ (fun t l=>by rw[List.mem_singleton.1 l];exact⟨by decide,by decide,by decide⟩) (fun t l=>by rw[List.mem_singleton.1 l];decide)
 rw[y1B] at j;have v:=η j;have r:=η (q.o.grow I);clear I j q;go_wp2_with fail;refine v.o.mono ?_;rintro e N ⟨rfl,F⟩;have D:=r.o.grow F;have G:=q0B N (.cells #[.string ⟨#[116]⟩,.string ⟨#[]⟩,.float .f64 0] 66);have B:=Blk.new N 66 #[.string ⟨#[116]⟩,.string ⟨#[]⟩,.float .f64 0];have C:=D.more (K':=fun i=>i=N.heap.size) G fun i hi=> .inr (by rw[ρ];omega)
 have m:=η (C.append (by omega) [115] (by decide) (-1) (L:=[⟨[116],[],0⟩]) (fun W _ Y=>(by
  have:=(B.same (Y _ rfl)).evs (L:=[⟨[116],[],0⟩]) (k:=1) (by decide) (by decide)
  rwa [Δ (by decide)] at this)) (z7U (by decide)) (by decide) y1C)
 clear D G B C F v r;go_wp2_with fail;refine m.o.mono ?_;rintro e w4 ⟨x,y,X,rfl,b,_,h3⟩;rcases h3 with⟨h3,_⟩|⟨_,_,_,_,h3⟩|⟨_,rfl,rfl,rfl⟩
 ·exact absurd rfl h3
 ·omega
 have Q:=η (z0j b (by omega) (show 0<(tos ([]++[⟨[115],(q1L [] [115]).length,[⟨[116],[],0⟩]⟩])).length by decide) T (by omega) U.o);clear b m;go_wp2_with fail;refine Q.o.mono ?_;rintro e w5 ⟨rfl,b,_⟩;have V:=η b.base;clear b Q;go_wp2_with fail;go_ret;exact⟨rfl,V.o⟩
theorem copiesnone_c(t:List UInt8)(w:World)(S:t.length<=9223372036854775807):
  Calls Tryz.prog 4 #[.string ⟨t.toArray⟩] w fun e w'=>e= .returned (.bool true)/\Ext w w':=by
 have q:=η z6P;have r:=η (Ext.refl w);by_cases F:500<t.length
 ·have N:decide ((500:Int)<(t.length:Int))=true:=ζ (by omega)
  clear F;go_enter Tryz.func4,Tryz.ntmps4;go_wp2_with fail;refine(q.o _).mono ?_;rintro e w1 ⟨rfl,b⟩;have d:=η (r.o.trans b);clear b;go_wp2_with fail;go_ret;exact⟨rfl,d.o⟩
 have N:decide ((500:Int)<(t.length:Int))=false:=ε (by omega);have D:=η (z4N (w:=w) (p:=none) (.inl rfl));have E:=η (fun W=>z0l W (Tos.empty W) (fun t C=>by cases C) (fun t C=>by cases C));rw[y0q] at E;have J:=η y0r;have G:=y0s;generalize q0g (q3u [])=T at*;have M:=η (fun W=>q6Y (w:=W) (p:=none) T (by omega) J.o (fun W _=> .inl rfl));have j:=η (fun W=>q8W t W (by omega));have l:Hd (∀W,Calls Tryz.prog 16 #[.pointer none,.string ⟨t.toArray⟩] W fun e w'=>e= .returned (.tuple #[.int .i64 0,.int .i64 (if (q1y t).2=0 then 1 else(q1y t).2)])/\Ext W w'):=η fun W=>by
  rcases z1p t with h|⟨L,h⟩
  ·have:=z3G (p:=none) t (by omega) h W
   rw[h];exact this
  ·have:=q6Y (w:=W) (p:=none) t (by omega) h (fun W _=> .inl rfl)
   rw[h];exact this
 have I:(q1y t).2=0\/(q1y t).2=10:=by
  rcases z1p t with h|⟨L,h⟩
  ·right;rw[h]
  ·left;rw[h]
 generalize q1y t=X at*;obtain⟨R,z⟩:=X;simp only at j l I;clear F;go_enter Tryz.func4,Tryz.ntmps4;go_wp2_with fail;refine D.o.mono ?_;rintro e w1 ⟨rfl,b⟩;have d:=η b;clear b D;go_wp2_with fail;refine(E.o _).mono ?_;rintro e U ⟨rfl,b⟩;have x:=η (d.o.trans b);clear b;go_wp2_with fail;refine(M.o _).mono ?_;rintro e V ⟨rfl,b⟩;have y:=η (x.o.trans b);clear b;go_wp2_with fail;refine(j.o _).mono ?_;rintro e Y ⟨v,rfl,O,b⟩;have B:=η (y.o.trans b);clear b O;go_wp2_with fail;refine(l.o _).mono ?_;rintro e Z ⟨rfl,b⟩;have m:=η (B.o.trans b);clear b;rcases I with rfl|rfl
 ·rw[ξ rfl]
  go_wp2_with fail;refine(q.o _).mono ?_;rintro e Q ⟨rfl,b⟩;have i:=η (m.o.trans b);clear b;go_wp2_with fail;go_ret;exact⟨rfl,i.o⟩
 ·rw[κ (by decide)]
  go_wp2_with fail;refine(q.o _).mono ?_;rintro e Q ⟨rfl,b⟩;have i:=η (m.o.trans b);clear b;go_wp2_with fail;go_ret;exact⟨rfl,i.o⟩
end
end Go.Proofs.YteabhdclmodefaaGreatDoor
