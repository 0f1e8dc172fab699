/- Walks. -/
import Derived.Test.YtfiibpgoplcgkaaGreatDoorG36SF
import Derived.Test.YtfiibpgoplcgkaaGreatDoorG37SF
set_option linter.unusedVariables false
set_option linter.unusedSimpArgs false
set_option maxRecDepth 100000
set_option maxHeartbeats 12800000
namespace Go.Proofs.YtfiibpgoplcgkaaGreatDoor
variable {k:Nat}
section
open Go.RowKit
section
variable {wb w W W':World}{g gs gu rate u n:Nat}{sd c s a v t:Int}{bs:List Bt}{K K':Nat->Prop}{st own:List UInt8}{p:Option Addr}
theorem q3a{P:Prop}{i g:Nat}:P->(P/\i≠g)\/i=g:=fun h=>by
 by_cases e:i=g
 ·exact .inr e
 ·exact .inl ⟨h,e⟩
theorem q4P(h:SK wb w g gs rate sd c s u n bs K)(o:n<=1000)(m:K gu)(l:wb.heap.size<=gu)(b:SubI w gu gs st own a v t)(q:st.length<=4611686018427387903)(d:0<=t)(j:t<=2147483648)(k:Int):
  Calls Tryz.prog 40 #[.pointer (some ⟨gu,0,none⟩),.int .i64 k] w fun e w'=> ∃x,e= .returned (.tuple #[x,.int .i64 (q1z st t k)])/\
   SK wb w' g gs rate sd c s u n bs (fun i=>K i\/x.ownBlock=some i)/\Stay (fun i=>K i/\i≠gu) w w'/\w'.ownsRow wb.heap.size 69 5 x (q6H bs st t k).length (q4h (q6H bs st t k))/\(∀i,K i->x.ownBlock≠some i)/\
   SubI w' gu gs st own a v (t+((q6H bs st t k).length:Int)):=by
 have hq: ∀i,((K i/\i≠gu)\/i=gu)↔K i:=fun i=>⟨fun h=>h.elim And.left fun e=>by rw[e];exact m,q3a⟩
 refine(z6L (K:=fun i=>K i/\i≠gu) (h.beside fun i b=>(hq i).1 b) o (fun h=>h.2 rfl) l b q d j k).mono ?_;rintro e w' ⟨x,rfl,r,y,B,C,D⟩;exact⟨x,rfl,r.beside fun i b=>b.imp q3a id,y,B,fun i b=>C i (q3a b),D⟩
theorem q6U(h:SK wb w g gs rate sd c s u n bs K)(q:n<=86)(b:(u:Int)+8024<=c)(o:K gu)(m:wb.heap.size<=gu)(d:SubI w gu gs st own a v t)(r:own.length<=4611686018427387903)(j:0<=t)(l:t<=1073741825)(x:SbW w):
  Calls Tryz.prog 41 #[.pointer (some ⟨gu,0,none⟩)] w fun e w'=>e= .returned (.int .i64 (z0j bs own a v t))/\
   SK wb w' g gs rate sd c s (u+2024) (n+1) (z4Z bs own a v t) K/\Stay (fun i=>K i/\i≠gu) w w'/\SubI w' gu gs st own (z4U bs own a v t) (z9v bs own a v t) t:=by
 have hq: ∀i,((K i/\i≠gu)\/i=gu)↔K i:=fun i=>⟨fun h=>h.elim And.left fun e=>by rw[e];exact o,q3a⟩
 refine(z8C (K:=fun i=>K i/\i≠gu) (h.beside fun i d=>(hq i).1 d) q b (fun h=>h.2 rfl) m d r j l x).mono ?_;rintro e w' ⟨rfl,y,B,C⟩;exact⟨rfl,y.beside fun i d=>q3a d,B,C⟩
theorem z3A(h:SK wb W g gs rate sd c s u n bs K)(J:n<=86)(o:(u:Int)+8024<=c)(b:List UInt8)(q:b.length<=4611686018427387903)(ex:Int)
  {cs:Array Value}(L:List Ev)(m:cs=(q5e L).toArray)(I:L.length<=1000000)(F:q3p L)(r: ∀e∈L,e.we<18446744073709551616){z:Int}(M:q9Y bs b ex L=z):
  Calls Tryz.prog 38 #[.pointer (some ⟨gs,0,none⟩),.string ⟨b.toArray⟩,.int .i64 ex,.slice (some ⟨W.heap.size,0,none⟩) L.length L.length] (W.alloc (.cells cs 67)) fun e w'=>e= .returned (.tuple #[.int .i64 (if z=0 then((q0T bs b).length:Int) else 0),.int .i64 z])/\
   SK wb w' g gs rate sd c s (u+2024) (n+1) (if z=0 then bs++[⟨b,(q0T bs b).length,L⟩] else bs) K/\Stay K W w':=by
 subst m;have G:=Blk.new W 67 (q5e L).toArray;have B:=q0B W (.cells (q5e L).toArray 67);have E:SK wb (W.alloc (.cells (q5e L).toArray 67)) g gs rate sd c s u n bs (fun i=>K i\/i=W.heap.size):=h.more B fun i d=>by
  rcases d with d|d
  ·exact .inl d
  ·exact .inr ⟨by omega,by rw[ρ];omega⟩
 refine(E.append J b q ex (L:=L) (fun W' _ q=>by
  have:=(G.same (q _ (.inr rfl))).evs (k:=L.length) (ι _) I
  rwa [List.take_length] at this) F r M).mono ?_
 rintro e w' ⟨x,y,D,rfl,C,N,j⟩;have l:Stay K W w':=fun i d=>(N i (.inl d)).trans (B.block i (h.klt i d))
 rcases j with⟨j,rfl,rfl,rfl⟩|⟨_,_,_,_,j⟩|⟨rfl,rfl,rfl,rfl⟩
 ·rw[κ j,κ j]
  exact⟨rfl,C.beside fun i d=> .inl d,l⟩
 ·omega
 ·rw[ξ rfl,ξ rfl]
  exact⟨rfl,C.beside fun i d=> .inl d,l⟩
end
abbrev sta :Bt:=⟨[126,102],0,[q6F 2]⟩
theorem y1R :q6F 2=⟨[97,116],[50],0⟩:=by unfold q6F;rw[show(2:Int).toNat=2 from rfl,Lib.decDigits_one (by decide)];rfl
theorem y2C :z0m [st1] [102] [115]=0:=by decide
theorem y2D :z3H [st1] [102]=0:=by decide
theorem y2E :q6H [st1] [115] 0 1=[⟨[115],0,evA⟩]:=rfl
theorem y2F :q6H [st1] [115] 1 9=[⟨[115],1,z8L⟩]:=rfl
theorem y2G :q6H [st1] [115] 2 9=[]:=rfl
theorem y1q :q9Y [st1] [126,102] (-1) [q6F 2]=0:=by rw[y1R];decide
theorem y1v :q7h [50]=some 2:=numU_iff.2 ⟨by rw[Lib.decDigits_one (by decide)];rfl,by decide⟩
theorem y2H :z0m [st1,sta] [102] [115]=0:=by
 unfold z0m;rw[κ (by decide),κ (by decide),ξ];show(decide ((q6F 2).ty=[97,116])&&(q7h (q6F 2).da).isSome)=true;rw[y1R,y1v];rfl
theorem y2I :z3H [st1,sta] [102]=2:=by
 unfold z3H;rw[κ (by decide)];show(((q7h (q6F 2).da).getD 0:Nat):Int)=2;rw[y1R,y1v];rfl
theorem y1r :z0m [st1,sta] [102] [126,102]=2:=by unfold z0m;rw[ξ (.inr (.inr (.inr rfl)))]
theorem z3p(w:World)(hw:SbW w):Calls Tryz.prog 44 #[] w fun e w'=>e= .returned (.bool true)/\Ext w w':=by
 have U:=η hw;have HO:=η (q8E 0 0 0 w (by decide) (by decide));clear hw;go_enter Tryz.func44,Tryz.ntmps44;go_wp2_with fail;refine HO.o.mono ?_;rintro e w1 ⟨g,gs,rfl,d⟩;have I:=η (z3A d (by omega) (by decide) [115] (by decide) (-1) [evA,z8L] rfl (by decide) (z3D (by decide)) (by decide) y2L);clear d HO;go_wp2_with fail;refine I.o.mono ?_;rintro e w2 ⟨rfl,d,_⟩;rw[ξ trivial,show([]++[(⟨[115],(q0T [] [115]).length,[evA,z8L]⟩:Bt)])=[st1] from rfl] at d;have r:=η (q3E d (by omega) [102] [115] (by decide) (by decide) U.o);clear d I;go_wp2_with fail;refine r.o.mono ?_;rintro e w3 ⟨_,_,⟨j,_⟩|⟨_,gu,rfl,b,_,V,d⟩⟩
 ·exact absurd y2C j
 have HK:=η (d.beside (K':=fun i=>i=gu) fun i b=> .inr b);have HI:Hd (SubI w3 gu gs [115] [126,102] 0 (-1) 0):=η (by rw[show z3H [st1] [102]=0 from y2D] at b;exact b);have S:=η V;have E:=η (q4P HK.o (by omega) rfl S.o HI.o (by decide) (by decide) (by decide) 1);rw[show q6H [st1] [115] 0 1=_ from y2E] at E;clear b V d r;go_wp2_with fail;refine E.o.mono ?_;rintro e w4 ⟨x1,rfl,d,l,y,F,b⟩;obtain⟨va,vc,rfl⟩:=q0H y;have a0:=η (d.beside (K':=fun i=>i=gu) fun i b=> .inl b);have Y:=η b;have m:=η (q4P a0.o (by omega) rfl S.o Y.o (by decide) (by decide) (by decide) 9);rw[show q6H [st1] [115] (0+(([(⟨[115],0,evA⟩:To)].length:Nat):Int)) 9=_ from y2F] at m;clear d l y F b E;go_wp2_with fail;refine m.o.mono ?_;rintro e X ⟨x2,rfl,d,l,y,F,b⟩;obtain⟨vb,vd,rfl⟩:=q0H y;obtain⟨D,x⟩: ∃D:Nat->Prop,(fun i=>i=gu\/(Value.slice vb [(⟨[115],1,z8L⟩:To)].length vd).ownBlock=some i)=D:=⟨_,rfl⟩
 rw[x] at d;have HR:Hd (∀W,(∀i,D i->i≠gu->W.heap[i]? =X.heap[i]?)->Tos W vb 1 vd [(⟨[115],1,z8L⟩:To)]):=η fun W kk=>(z6V (q1H y fun i b=>kk i (by rw[<-x];exact .inr b) fun e=>F gu rfl (by rw[<-e];exact b))).1
 have HG:Hd (D gu):=η (by rw[<-x];exact .inl rfl);have b0:=η d;have Z:=η b;have q:=η (q4P b0.o (by omega) HG.o S.o Z.o (by decide) (by decide) (by decide) 9);rw[show q6H [st1] [115] (0+(([(⟨[115],0,evA⟩:To)].length:Nat):Int)+(([(⟨[115],1,z8L⟩:To)].length:Nat):Int)) 9=_ from y2G] at q;clear d l y F b m x;go_wp2_with fail;refine q.o.mono ?_;rintro e w6 ⟨x3,rfl,d,l,y,F,b⟩;obtain⟨vg,vh,rfl⟩:=q0H y;have Q:=η (d.beside (K':=D) fun i b=> .inl b);have N:Hd (SubI w6 gu gs [115] [126,102] 0 (-1) 2):=η b;have e0:Hd (∀i,D i->i≠gu->w6.heap[i]? =X.heap[i]?):=η fun i b j=>l i ⟨b,j⟩
 have J:=η (q7O N.o);have G:=η (q6U Q.o (by omega) (by decide) HG.o S.o N.o (by decide) (by decide) (by decide) (U.o.ext Q.o.base));clear d l y F b q;go_wp2_with fail;refine J.o.mono ?_;rintro e w7 ⟨rfl,rfl⟩;go_wp2_with fail;refine G.o.mono ?_;rintro e w8 ⟨rfl,d,l,b⟩;have e1:z0j [st1] [126,102] 0 (-1) 2=0:=by unfold z0j;rw[κ (by decide)];exact y1q
 have e2:z4Z [st1] [126,102] 0 (-1) 2=[st1,sta]:=by unfold z4Z;rw[κ (by decide),ξ y1q];rfl
 have e3:z4U [st1] [126,102] 0 (-1) 2=2:=by unfold z4U;rw[ξ e1]
 rw[e2] at d;rw[e3] at b;rw[e1];have c0:=η d;have f0:Hd (∀i,D i->i≠gu->w8.heap[i]? =X.heap[i]?):=η fun i b j=>(l i ⟨b,j⟩).trans (e0.o i b j)
 have B:=η (q7O b);clear e1 e2 e3 d l b G J;go_wp2_with fail;refine B.o.mono ?_;rintro e w9 ⟨rfl,rfl⟩;have r:=η (q3E c0.o (by omega) [102] [115] (by decide) (by decide) U.o);clear B;go_wp2_with fail;refine r.o.mono ?_;rintro e i0 ⟨_,l,⟨j,_⟩|⟨_,gv,rfl,b,_,V,d⟩⟩
 ·exact absurd y2H j
 rw[y2I] at b;have M:=η b;have R:Hd (∀i,D i->i≠gu->i0.heap[i]? =X.heap[i]?):=η fun i b j=>(l i b).trans (f0.o i b j)
 have O:=η d;have C:=η (q3E O.o (by omega) [102] [126,102] (by decide) (by decide) U.o);clear b l V d r;go_wp2_with fail;refine C.o.mono ?_;rintro e j0 ⟨hx,l,⟨_,rfl,_⟩|⟨h0,_⟩⟩
 rotate_left
 ·rw[y1r] at h0;cases h0
 have HX:=η hx;have g0:=η (z0W (M.o.same (l gv (.inr rfl))));obtain⟨bb,off,rfl,d0,d1,d2,d3,d4⟩:=(HR.o j0 (fun i b j=>(l i (.inl b)).trans (R.o i b j))).at (i:=0) (by decide);simp only[List.getD_cons_zero,Nat.zero_mul,Nat.add_zero] at d0 d1 d2 d3 d4;rw[y1r];clear hx l d0 d2 d3 d4 C;go_wp2_with fail;refine g0.o.mono ?_;rintro e k0 ⟨rfl,rfl⟩;go_wp2_with fail;go_ret;exact⟨rfl,HX.o⟩
abbrev evT :Ev:=⟨[116],[],0⟩
def fcB :Nat->List Bt
 |0=>[]
 |n+1=>fcB n++[⟨[115],n,[evT]⟩]
theorem q8h : ∀n,(q0T (fcB n) [115]).length=n
 |0=>rfl
 |n+1=>by rw[fcB,q2r,ξ rfl,θ,q8h n];rfl
theorem q5v{s:List UInt8}(h:s≠[115]): ∀n,q0T (fcB n) s=[]
 |0=>rfl
 |n+1=>by rw[fcB,q2r,κ (fun e=>h e.symm),q5v h n]
theorem y0F :q0X [115] 0 [evT]=0:=by decide
theorem y0O(n:Nat):q9Y (fcB n) [115] ((n:Int)-1) [evT]=0:=by
 unfold q9Y;rw[κ (by rw[y0F];decide),κ (by omega),κ (by rw[q8h];omega)]
theorem z8M(n:Nat)(d:1<=k)(i:k<=n):(q6H (fcB n) [115] 0 (k:Int)).length=k/\q1z [115] 0 (k:Int)=0:=by
 have b:q1z [115] 0 (k:Int)=0:=κ (by rintro(h|h|h);cases h;omega;omega);refine⟨?_,b⟩;rw[z7T b,Θ,List.length_drop,q2P,q8h];show min (k:Int).toNat (n-0)=k;omega
theorem z2B{s:List UInt8}(d:q1a s=true){t:Nat}(j:t<=1073741825):q0X s 0 [q6F (t:Int)]=0:=by
 have h:=q6B d;have i:=q9j (n:=t) (by omega);unfold q0X;rw[κ (by rintro(b|b);rw[b] at h;exact absurd h.1 (by decide);cases b),κ (by rintro(b|b);omega;exact absurd b (by show ¬8<1;decide)),κ (by rintro(b|b);cases b;exact absurd b (by show ¬(1073741824-(1:Int)<0);decide))];have he:q0i (q6F (t:Int)).ty (q6F (t:Int)).da=0:=by
  show q0i [97,116] (Lib.decDigits (t:Int).toNat)=0;rw[Int.toNat_natCast];unfold q0i;rw[κ (by decide),κ (by decide),κ (by omega)]
 unfold q6p;rw[ξ he]
 rfl
theorem z9A(n:Nat)(b:1<=k)(d:k<=20):q9Y (fcB n) [126,102] (-1) [q6F (k:Int)]=0:=by
 unfold q9Y;rw[κ (by rw[z2B (by decide) (by omega)];decide),κ (by omega),κ (by rw[q5v (by decide)];decide)]
def fcA(n k:Nat):List Bt:=fcB n++[⟨[126,102],0,[q6F (k:Int)]⟩]
theorem z1A(n k:Nat):q0T (fcA n k) [126,102]=[q6F (k:Int)]:=by unfold fcA;rw[q2r,ξ rfl,q5v (by decide)];rfl
theorem z9B(n k:Nat){j:Nat}(b:1<=j)(d:j<=20):q9Y (fcA n k) [126,102] (-1) [q6F (j:Int)]=80:=by
 unfold q9Y;rw[κ (by rw[z2B (by decide) (by omega)];decide),κ (by omega),ξ ⟨by decide,by rw[z1A];show(-1:Int)≠((1:Nat):Int)-1;decide⟩]
theorem q8i(n:Nat):z0m (fcB n) [102] [115]=0/\z3H (fcB n) [102]=0:=by
 unfold z0m z3H;rw[κ (by decide),q5v (by decide)];exact⟨rfl,rfl⟩
theorem z2l(h:k<=1073741824):q7h (q6F (k:Int)).da=some k:=numU_iff.2 ⟨by show Lib.decDigits k=Lib.decDigits (k:Int).toNat;rw[Int.toNat_natCast],h⟩
theorem z2U(n k:Nat)(h:k<=20):z0m (fcA n k) [102] [115]=0/\z3H (fcA n k) [102]=(k:Int):=by
 have d:z0l (fcA n k) [126,102]=q6F (k:Int):=by unfold z0l;rw[z1A];rfl
 unfold z0m z3H;rw[κ (by decide),d,z1A,z2l (by omega)];have b:z3I (q6F (k:Int))=true:=by unfold z3I;rw[z2l (by omega)];rfl
 rw[b];exact⟨rfl,rfl⟩
theorem z2V(n k:Nat):z0m (fcA n k) [103] [115]=0/\z3H (fcA n k) [103]=0:=by
 have b:q0T (fcA n k) [126,103]=[]:=by unfold fcA;rw[q2r,κ (by show ¬([126,102]:List UInt8)=[126,103];decide),q5v (by decide)]
 unfold z0m z3H;rw[κ (by decide),b];exact⟨rfl,rfl⟩
theorem z1l(sd:Int)(rate:Nat)(y:Int)(m a b:Nat)(w:World)(hw:SbW w)(b1:0<=sd)(h1:sd<18446744073709551616)(hm:m<=255)(ha:a<=255)(hb:b<=255):
  Calls Tryz.prog 8 #[.int .u8 (m:Int),.agg #[.int .u8 (a:Int),.int .u8 (b:Int)],.agg #[.int .u64 sd,.float .f64 rate,.int .u16 y]] w fun e w'=>e= .returned (.bool true)/\Ext w w':=by
 have e0:=q5I w (.cells #[.int .u8 (a:Int),.int .u8 (b:Int)] 55) (.cells #[.int .u64 sd,.float .f64 rate,.int .u16 y] 27);have R:=Blk.new (w.alloc (.cells #[.int .u8 (a:Int),.int .u8 (b:Int)] 55)) 27 #[.int .u64 sd,.float .f64 rate,.int .u16 y];rw[ρ] at R;have t0:=(Blk.new w 55 #[.int .u8 (a:Int),.int .u8 (b:Int)]).ext (q0B _ (.cells #[.int .u64 sd,.float .f64 rate,.int .u16 y] 27));have HX:=η e0;have N:=η t0;have k0:=R.cell 0;have k1:=R.cell 1;have k2:=R.cell 2;have HO:=η (q8E sd rate y ((w.alloc (.cells #[.int .u8 (a:Int),.int .u8 (b:Int)] 55)).alloc (.cells #[.int .u64 sd,.float .f64 rate,.int .u16 y] 27)) b1 h1);have V:=η (hw.ext e0);obtain⟨S,c0⟩: ∃S,m % 20=S:=⟨_,rfl⟩
 have w0:S<20:=by omega
 have F0:=η c0;have q1:IntKind.i64.wrap (m:Int)=(m:Int):=by rw[ν];omega
 have q2:Int.tmod (m:Int) 20=(S:Int):=by rw[Int.tmod_eq_emod_of_nonneg (by omega),<-c0];omega
 have q3:IntKind.i64.wrap (S:Int)=(S:Int):=by rw[ν];omega
 have q4:IntKind.i64.wrap (1+(S:Int))=((S+1:Nat):Int):=by rw[ν];omega
 clear e0 R t0 hw c0;go_enter Tryz.func8,Tryz.ntmps8;go_wp2_with fail;refine HO.o.mono ?_;rintro e w1 ⟨g,gs,rfl,l⟩;obtain⟨W0,s0⟩: ∃W0,(w.alloc (.cells #[.int .u8 (a:Int),.int .u8 (b:Int)] 55)).alloc (.cells #[.int .u64 sd,.float .f64 rate,.int .u16 y] 27)=W0:=⟨_,rfl⟩
 rw[s0] at l N V HX;have HK:=η l;clear l HO k0 k1 k2 s0;go_wp2_with fail;obtain⟨U,Z0⟩: ∃U,S+1=U:=⟨_,rfl⟩
 rw[show(S:Int)+1=(U:Int) by omega];have l1:1<=U/\U<=20:=by omega
 clear Z0 q1 q2 q3 q4 F0 w0
 go_loopw [11] (fun o W=> ∃k:Nat,k<=U/\o= .int .i64 (k:Int)/\Hd (SK W0 W g gs rate sd 1048576 0 (2024*k) k (fcB k) noI)) (fun i _=>U-(intOf i).toNat)
 case atStart=>exact⟨0,by omega,rfl,HK⟩
 case round=>
  obtain⟨k,l,rfl,HR⟩:=hrel;by_cases j1:k<U
  ·have hd:decide ((k:Int)<(U:Int))=true:=ζ (by omega)
   have q8:IntKind.i64.wrap ((k:Int)+1)=(k:Int)+1:=by rw[ν];omega
   have q9:IntKind.i64.wrap ((k:Int)-1)=(k:Int)-1:=by rw[ν];omega
   have i0:=η (z3A HR.o (by omega) (by omega) [115] (by decide) ((k:Int)-1) [evT] rfl (by decide) (z3D (by decide)) (by decide) (y0O k));go_wp2_with fail;refine i0.o.mono ?_;rintro e w2 ⟨rfl,b0,_⟩;rw[ξ trivial,q8h] at b0;have Y:Hd (SK W0 w2 g gs rate sd 1048576 0 (2024*(k+1)) (k+1) (fcB (k+1)) noI):=η (by rw[Nat.mul_succ];exact b0);clear b0 i0;go_wp2_with fail
   go_roundw
   case rel=>exact⟨k+1,by omega,by go_num,Y⟩
   case measure=>simp[intOf];omega
  ·obtain rfl:k=U:=by omega
   have hd:decide ((k:Int)<(k:Int))=false:=ε (by omega);obtain⟨q,d0⟩: ∃x,a % k=x:=⟨_,rfl⟩
   obtain⟨B,g0⟩: ∃x,b % k=x:=⟨_,rfl⟩
   have n1:q<k:=by rw[<-d0];exact Nat.mod_lt _ (by omega)
   have o1:B<k:=by rw[<-g0];exact Nat.mod_lt _ (by omega)
   have q1:IntKind.i64.wrap (a:Int)=(a:Int):=by rw[ν];omega
   have q2:Int.tmod (a:Int) (k:Int)=(q:Int):=by rw[Int.tmod_eq_emod_of_nonneg (by omega),<-d0];omega
   have q3:IntKind.i64.wrap (q:Int)=(q:Int):=by rw[ν];omega
   have q4:IntKind.i64.wrap (1+(q:Int))=1+(q:Int):=by rw[ν];omega
   have q5:IntKind.i64.wrap (b:Int)=(b:Int):=by rw[ν];omega
   have q6:Int.tmod (b:Int) (k:Int)=(B:Int):=by rw[Int.tmod_eq_emod_of_nonneg (by omega),<-g0];omega
   have q7:IntKind.i64.wrap (B:Int)=(B:Int):=by rw[ν];omega
   have q8:IntKind.i64.wrap (1+(B:Int))=1+(B:Int):=by rw[ν];omega
   have i1:¬k=0:=by omega
   have Q:=η (q3E HR.o (by omega) [102] [115] (by decide) (by decide) V.o);clear d0 g0;go_wp2_with fail;refine Q.o.mono ?_;rintro e w2 ⟨_,_,⟨G,_⟩|⟨_,gu,rfl,d,_,u0,l⟩⟩
   ·exact absurd (q8i k).1 G
   rw[(q8i k).2] at d;have A0:=η d;have X:=η u0;have Y:=η (l.beside (K':=fun i=>i=gu) fun i d=> .inr d);have C:=η (q3E Y.o (by omega) [102] [115] (by decide) (by decide) V.o);clear d u0 l Q;go_wp2_with fail;refine C.o.mono ?_;rintro e w3 ⟨_,r,⟨G,_⟩|⟨_,gv,rfl,d,D,v0,l⟩⟩
   ·exact absurd (q8i k).1 G
   rw[(q8i k).2] at d;have N0:Hd (SubI w3 gv gs [115] [126,102] 0 (-1) 0):=η (by rw[q5v (by decide)] at d;exact d);have G0:Hd (SubI w3 gu gs [115] [126,102] 0 (-1) 0):=η (by have:=A0.o.same (r gu rfl);rw[q5v (by decide)] at this;exact this);have l0:=η v0;have B0:=η l;have I:gu≠gv:=fun e=>D (by rw[e])
   have a0:=(N.o.ext l.base).cell 0;have a1:=(N.o.ext l.base).cell 1;obtain⟨f1,f2⟩:=z8M k (k:=q+1) (by omega) (by omega);obtain⟨g1,g2⟩:=z8M k (k:=B+1) (by omega) (by omega);have c1:((q+1:Nat):Int)=1+(q:Int):=by omega
   have c2:((B+1:Nat):Int)=1+(B:Int):=by omega
   rw[c1] at f1 f2;rw[c2] at g1 g2;have Z:=η (q4P B0.o (by omega) (.inl rfl) X.o G0.o (by decide) (by decide) (by decide) (1+(q:Int)));rw[f1,f2] at Z;have HG:=η (And.intro g1 g2);clear d D v0 l r C f1 f2 g1 g2 c1 c2;go_wp2_with fail;refine Z.o.mono ?_;rintro e w4 ⟨r1,rfl,l,r,hr,_,d⟩;obtain⟨va,vc,rfl⟩:=q0H hr;have C0:=η (l.beside (K':=fun i=>i=gu\/i=gv) fun i d=> .inl d);have H0:=η d;have O0:=η (N0.o.same (r gv ⟨.inr rfl,Ne.symm I⟩));have a0:=(N.o.ext l.base).cell 0;have a1:=(N.o.ext l.base).cell 1;have O:=η (q4P C0.o (by omega) (.inr rfl) l0.o O0.o (by decide) (by decide) (by decide) (1+(B:Int)));rw[HG.o.1,HG.o.2] at O;clear l r hr d Z;go_wp2_with fail;refine O.o.mono ?_;rintro e w5 ⟨r2,rfl,l,r,hr,_,d⟩;obtain⟨vb,vd,rfl⟩:=q0H hr;have m0:=η (l.beside (K':=fun i=>i=gu\/i=gv) fun i d=> .inl d);have P0:Hd (SubI w5 gv gs [115] [126,102] 0 (-1) ((B+1:Nat):Int)):=η (by rw[Int.zero_add] at d;exact d);have I0:Hd (SubI w5 gu gs [115] [126,102] 0 (-1) ((q+1:Nat):Int)):=η (by have:=H0.o.same (r gu ⟨.inl rfl,I⟩);rw[Int.zero_add] at this;exact this);clear l r hr d O a0 a1;have d1:((q:Int)+1==(0:Int))=false:=beq_eq_false_iff_ne.2 (by omega);have d2:((B:Int)+1==(0:Int))=false:=beq_eq_false_iff_ne.2 (by omega);have e1:=z9A k (k:=q+1) (by omega) (by omega);have e2:=z9B k (q+1) (j:=B+1) (by omega) (by omega);have f0:¬((q+1:Nat):Int)=0:=by omega
   have h0:¬((B+1:Nat):Int)=0:=by omega
   have A1:z0j (fcB k) [126,102] 0 (-1) ((q+1:Nat):Int)=0:=by unfold z0j;rw[κ f0];exact e1
   have A2:z4Z (fcB k) [126,102] 0 (-1) ((q+1:Nat):Int)=fcA k (q+1):=by unfold z4Z;rw[κ f0,ξ e1,q5v (by decide)];rfl
   have A3:z4U (fcB k) [126,102] 0 (-1) ((q+1:Nat):Int)=((q+1:Nat):Int):=by unfold z4U;rw[ξ A1]
   have B1:z0j (fcA k (q+1)) [126,102] 0 (-1) ((B+1:Nat):Int)=80:=by unfold z0j;rw[κ h0];exact e2
   have B2:z4Z (fcA k (q+1)) [126,102] 0 (-1) ((B+1:Nat):Int)=fcA k (q+1):=by unfold z4Z;rw[κ h0,κ (by rw[e2];decide)]
   have B3:z4U (fcA k (q+1)) [126,102] 0 (-1) ((B+1:Nat):Int)=0:=by unfold z4U;rw[κ (by rw[B1];decide)]
   have E:=η (q6U m0.o (by omega) (by omega) (.inl rfl) X.o I0.o (by decide) (by omega) (by omega) (V.o.ext m0.o.base));rw[A1,A2,A3] at E;have F:=η (And.intro B1 (And.intro B2 B3));clear e1 e2 f0 h0 A1 A2 A3 B1 B2 B3;go_wp2_with fail;refine E.o.mono ?_;rintro e w6 ⟨rfl,l,r,d⟩;have o0:=η l;have J0:=η d;have Q0:=η (P0.o.same (r gv ⟨.inr rfl,Ne.symm I⟩));have J:=η (q6U o0.o (by omega) (by omega) (.inr rfl) l0.o Q0.o (by decide) (by omega) (by omega) (V.o.ext o0.o.base));rw[F.o.1,F.o.2.1,F.o.2.2] at J;clear l r d E;go_wp2_with fail;refine J.o.mono ?_;rintro e w7 ⟨rfl,l,r,d⟩;have D0:=η l;have K0:=η (J0.o.same (r gu ⟨.inl rfl,I⟩));have M:=η (q7O d);have q0:=η (z0W d);clear l r d J;go_wp2_with fail;refine M.o.mono ?_;rintro e w8 ⟨rfl,rfl⟩;go_wp2_with fail;refine q0.o.mono ?_;rintro e w8 ⟨rfl,rfl⟩;have Q:=η (q3E D0.o (by omega) [102] [115] (by decide) (by decide) V.o);rw[show((B+1:Nat):Int)=(B:Int)+1 by omega];clear M q0;go_wp2_with fail;refine Q.o.mono ?_;rintro e w8 ⟨_,r,⟨G,_⟩|⟨_,gx,rfl,d,D,V0,l⟩⟩
   ·exact absurd (z2U k (q+1) (by omega)).1 G
   rw[(z2U k (q+1) (by omega)).2] at d;have R0:=η d;have L0:=η (K0.o.same (r gu (.inl rfl)));have E0:=η l;have m1:gu≠gx:=fun e=>D (by rw[<-e];exact .inl rfl)
   have C:=η (q3E E0.o (by omega) [103] [115] (by decide) (by decide) V.o);clear r d D V0 l Q;go_wp2_with fail;refine C.o.mono ?_;rintro e w9 ⟨_,r,⟨G,_⟩|⟨_,gy,rfl,d,D,X0,l⟩⟩
   ·exact absurd (z2V k (q+1)).1 G
   rw[(z2V k (q+1)).2] at d;have S0:=η (R0.o.same (r gx (.inr rfl)));have M0:=η (L0.o.same (r gu (.inl (.inl rfl))));have p0:=η l;have U0:=η d;have Y0:gy≠gu:=fun e=>D (by rw[e];exact .inl (.inl rfl))
   have M:=η (q7O S0.o);have A1:z0j (fcA k (q+1)) [126,102] ((q+1:Nat):Int) (z9v (fcB k) [126,102] 0 (-1) ((q+1:Nat):Int)) ((q+1:Nat):Int)=0:=by unfold z0j;rw[ξ rfl]
   have E:=η (q6U p0.o (by omega) (by omega) (.inl (.inl (.inl rfl))) X.o M0.o (by decide) (by omega) (by omega) (V.o.ext p0.o.base));rw[A1] at E;clear r d D X0 l C A1;go_wp2_with fail;refine M.o.mono ?_;rintro e z0 ⟨rfl,rfl⟩;rw[show((q+1:Nat):Int)=(q:Int)+1 by omega];go_wp2_with fail;refine E.o.mono ?_;rintro e z0 ⟨rfl,l,r,_⟩;have j0:=η (q7O (U0.o.same (r gy ⟨.inr rfl,Y0⟩)));have HF:=η (z3p z0 (V.o.ext l.base));have T0:=η (HX.o.trans l.base);clear l r E M;go_wp2_with fail;refine j0.o.mono ?_;rintro e p1 ⟨rfl,rfl⟩;go_wp2_with fail;refine HF.o.mono ?_;rintro e s1 ⟨rfl,hx⟩;have r0:=η (T0.o.trans hx);clear hx;go_wp2_with fail;go_ret;exact⟨rfl,r0.o⟩
theorem subsfence_w(sd:Int)(rate:Nat)(d:Int)(m a b:Int)(w:World)(l:SbW w)(i:0<=sd)(j:sd<18446744073709551616)(hm:0<=m/\m<=255)(o:0<=a/\a<=255)(q:0<=b/\b<=255):
  Calls Tryz.prog 8 #[.int .u8 m,.agg #[.int .u8 a,.int .u8 b],.agg #[.int .u64 sd,.float .f64 rate,.int .u16 d]] w fun e w'=>e= .returned (.bool true)/\Ext w w':=by
 obtain⟨m,rfl⟩: ∃n:Nat,m=(n:Int):=⟨m.toNat,by omega⟩
 obtain⟨a,rfl⟩: ∃n:Nat,a=(n:Int):=⟨a.toNat,by omega⟩
 obtain⟨b,rfl⟩: ∃n:Nat,b=(n:Int):=⟨b.toNat,by omega⟩
 exact z1l sd rate d m a b w l i j (by omega) (by omega) (by omega)
end
end Go.Proofs.YtfiibpgoplcgkaaGreatDoor
