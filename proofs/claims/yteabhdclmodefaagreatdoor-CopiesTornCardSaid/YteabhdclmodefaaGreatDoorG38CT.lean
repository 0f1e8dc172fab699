/- Walks. -/
import Derived.LaidEql
import Derived.Stop.Asserts
import Derived.RowKitTokens
import Derived.Test.YteabhdclmodefaaGreatDoorG37CT
set_option linter.unusedVariables false
set_option linter.unusedSimpArgs false
set_option maxRecDepth 100000
set_option maxHeartbeats 12800000
namespace Go.Proofs.YteabhdclmodefaaGreatDoor
variable {L:List Ev}{i m cap:Nat}{bs':List Bt}{ao:Option Addr}{A:List Acm}
section
open Go.RowKit Go.Extern.Stop Go.Stop Go.Extern
end
section
open Go.RowKit
section
variable {wb w W W':World}{g gs gw rate u n:Nat}{sd c s:Int}{bs:List Bt}{K K':Nat->Prop}
end
theorem q7P(sd:Int)(rate:Nat)(b:Int)(w:World)(x:0<=sd)(y:sd<18446744073709551616):
  Calls Tryz.prog 19 #[.agg #[.int .u64 sd,.float .f64 rate,.int .u16 b]] w fun e w'=> ∃g gs,e= .returned (.tuple #[.pointer (some ⟨g,0,none⟩),.pointer (some ⟨gs,0,none⟩),.bool true])/\SK w w' g gs rate sd 1048576 0 0 0 [] noI:=by
 have l:=q0B w (.cells #[.int .u64 sd,.float .f64 rate,.int .u16 b] 44);have j:=Blk.new w 44 #[.int .u64 sd,.float .f64 rate,.int .u16 b];have q:=η j;have r:=η l;have I:=η (fun W=>DkK.new24 W 1048576 (by decide) (by decide));clear l j;go_enter Tryz.func19,Tryz.ntmps19;go_wp2_with fail;refine(I.o _).mono ?_;rintro e w1 ⟨g,rfl,v⟩;have F:=DkK.base v;have d:=q.o.ext F;have k0:=d.cell 0;have k1:=d.cell 1;have C:=η ((DkK.sq (v.rebase r.o) sd x y).open (by omega) rate);clear v F d;go_wp2_with fail;refine C.o.mono ?_;rintro e J ⟨gs,rfl,E,B⟩;have G:=η E;clear E B C k0 k1;go_wp2_with fail;go_ret3;exact⟨g,gs,rfl,G.o⟩
section
variable {wb w W W':World}{g gs gw rate u n:Nat}{sd c s:Int}{bs:List Bt}{K K':Nat->Prop}
end
section
variable {wb w W W':World}{g gs gw rate u n:Nat}{sd c s:Int}{bs:List Bt}{K K':Nat->Prop}
end
theorem z7m{bs:List Bt}(h:okBs bs)(b:(tos bs).length<=1000):q6T (tos bs)=(q0T (q1d (tos bs)),0):=by
 unfold q6T;rw[κ (by omega),ξ (z0y bs h)]
theorem z9h{bs:List Bt}(h:okBs bs): ∀t∈tos bs,t.s.length<=4611686018427387903/\t.e.ty.length<=4611686018427387903/\t.e.da.length<=4611686018427387903:=fun t o=>by
 obtain⟨b,l,k,j,rfl⟩:=mem_tos.1 o;have d:=h.each l;obtain⟨r,v,x,y,B,C,q⟩:=q0g d.1;have hm:b.ev.getD k ev0∈b.ev:=by rw[δ,γ j];exact List.getElem_mem j
 obtain⟨_,h1,h2⟩:=q1i (q4b q _ hm);exact⟨by simp only;omega,by simp only;omega,by simp only;omega⟩
section
variable {wb w W W':World}{g gs rate u n:Nat}{sd c s:Int}{bs:List Bt}{K K':Nat->Prop}
theorem y0J(h:SK wb w g gs rate sd c s u n bs K)(F:n<=100):
  Calls Tryz.prog 15 #[.pointer (some ⟨gs,0,none⟩)] w fun e w'=>e= .returned (.tuple #[.string ⟨(q0T (q1d (tos bs))).toArray⟩,.int .i64 0])/\SK wb w' g gs rate sd c s u n bs K/\Stay K w w':=by
 have x:=h.few.2;have b:=h.ok;have r:=η (h.all (by omega));have d:=η (fun (ao:Option Addr) (cap:Nat) (W:World) (j:Tos W ao (tos bs).length cap (tos bs))=>z3q W j (z9h b) (y1z b));rw[z7m b (by omega)] at d;generalize q0T (q1d (tos bs))=T at*;clear h b;go_enter Tryz.func15,Tryz.ntmps15;go_wp2_with fail;refine r.o.mono ?_;rintro e w1 ⟨v,rfl,h1,h2,h3,h4⟩;obtain⟨ao,cap,rfl⟩:=q0G h3;have E:=η (d.o ao cap w1 (z9g h3).1);have q:=η h1;have y:=η h2;clear h1 h2 h3 h4 d r;go_wp2_with fail;refine E.o.mono ?_;rintro e G ⟨rfl,j⟩;have B:=η ((q.o.grow j).beside (K':=K) fun i l=> .inl l);have C:=η (y.o.trans (fun i l=>q.o.kExt j i (.inl l)));clear j;go_wp2_with fail;go_ret2;exact⟨rfl,B.o,C.o⟩
theorem y0D(s:List UInt8):q2N s=([],10)\/ ∃L,q2N s=(L,0):=by
 rcases q5S s with h|⟨L,_,h⟩
 ·exact .inl h
 ·exact .inr ⟨L,h⟩
theorem q7G{p:Option Addr}(t:List UInt8)(q:t.length<=1000000)(d:q2N t=([],10))(w:World):
  Calls Tryz.prog 16 #[.pointer p,.string ⟨t.toArray⟩] w fun e w'=>e= .returned (.tuple #[.int .i64 0,.int .i64 10])/\Ext w w':=by
 have b:=z7l t w q;rw[d] at b;have b:=η b;clear d;go_enter Tryz.func16,Tryz.ntmps16;go_wp2_with fail;refine b.o.mono ?_;rintro e w1 ⟨v,rfl,h1,j⟩;obtain⟨ao,cap,rfl⟩:=q0G h1;have l:=η j;clear h1 j;go_wp2_with fail;go_ret2;exact⟨rfl,l.o⟩
theorem z3o(h:SK wb w g gs rate sd c s u n bs K)(M:n<=1000)(G:0<(tos bs).length)(t:List UInt8)(J:t.length<=1000000){L:List To}(C:q2N t=(L,0)):
  Calls Tryz.prog 16 #[.pointer (some ⟨gs,0,none⟩),.string ⟨t.toArray⟩] w fun e w'=>e= .returned (.tuple #[.int .i64 0,.int .i64 62])/\SK wb w' g gs rate sd c s u n bs K/\Stay K w w':=by
 have b:=z7l t w J;rw[C] at b;have b:=η b;have x:=η h;have O:decide ((0:Int)<((tos bs).length:Int))=true:=ζ (by omega);generalize B:tos bs=T at*;have j:=η B;clear C h B;go_enter Tryz.func16,Tryz.ntmps16;go_wp2_with fail;refine b.o.mono ?_;rintro e w1 ⟨v,rfl,h1,q⟩;obtain⟨ao,cap,rfl⟩:=q0G h1;have l:=(x.o.grow q).all M;rw[j.o] at l;have r:=η l;have d:=η (x.o.kExt q);clear h1 q l b;go_wp2_with fail;refine r.o.mono ?_;rintro e Q ⟨v,rfl,h1,h2,h3,h4⟩;obtain⟨N,y,rfl⟩:=q0G h3;have E:=η (h1.beside (K':=K) fun i I=> .inl I);have F:=η (d.o.trans h2);clear h1 h2 h3 h4 r;go_wp2_with fail;go_ret2;exact⟨rfl,E.o,F.o⟩
end
abbrev coT :To:=⟨[115],1,⟨[116],[],0⟩⟩
theorem y5b :q6T [coT]=([],2):=by decide
theorem y5e :z6K [] [115] (-1) [⟨[116],[],0⟩]=0:=by decide
theorem y5a :q6T []=(q0T (q1d []),0):=rfl
theorem y5c :q2N (q0T (q1d []))=([],0):=z4w rfl (fun t b=>by cases b) (by decide)
theorem y5d :(q0T (q1d [])).length=17:=by rw[q0d];rfl
theorem y5f :(q0T (q1d [])).take 13=[97,110,110,97,108,105,115,116,10,0,0,0,0]:=by
 unfold q0T;rw[List.take_append_of_le_length (by decide)]
 rfl
theorem y0I(w:World):Calls Tryz.prog 9 #[] w fun e w'=>e= .returned (.bool true)/\Ext w w':=by
 have U:=η (q7P 0 0 0 w (by decide) (by decide));have O:=η (fun W=>z3q W (Tos.empty W) (fun t l=>by cases l) (fun t l=>by cases l));rw[y5a] at O;have Y:=η y5c;have G:=y5d;have d:=y5f;generalize q0T (q1d [])=T at*;have s1:=q3d T 13 13 rfl (by omega);rw[d] at s1;have V:((T.length:Int)==17)=true:=by rw[G];rfl
 clear d;go_enter Tryz.func9,Tryz.ntmps9;go_wp2_with fail;refine U.o.mono ?_;rintro e w1 ⟨g,gs,rfl,b⟩;have R:=η b;clear b U;go_wp2_with fail;refine(O.o _).mono ?_;rintro e N ⟨rfl,I⟩;have r:=η (R.o.grow I);clear I R O;have M:=q0B N (.cells #[.string ⟨#[115]⟩,.int .i64 1,.string ⟨#[116]⟩,.string ⟨#[]⟩,.float .f64 0] 68);have j:=z3q (ao:=some ⟨N.heap.size,0,none⟩) (n:=1) (cap:=1) (L:=[coT]) (N.alloc (.cells #[.string ⟨#[115]⟩,.int .i64 1,.string ⟨#[116]⟩,.string ⟨#[]⟩,.float .f64 0] 68))
  ⟨rfl,ι _,by decide,(fun h=>by cases h),Rd.lit N #[.string ⟨#[115]⟩,.int .i64 1,.string ⟨#[116]⟩,.string ⟨#[]⟩,.float .f64 0] 68⟩ (fun t l=>by rw[List.mem_singleton.1 l];exact⟨by decide,by decide,by decide⟩) (fun t l=>by rw[List.mem_singleton.1 l];decide)
 rw[y5b] at j;have B:=η j;have v:=η (r.o.grow M);clear M j r;go_wp2_with fail;refine B.o.mono ?_;rintro e Q ⟨rfl,I⟩;have F:=v.o.grow I;have J:=q0B Q (.cells #[.string ⟨#[116]⟩,.string ⟨#[]⟩,.float .f64 0] 66);have C:=Blk.new Q 66 #[.string ⟨#[116]⟩,.string ⟨#[]⟩,.float .f64 0];have E:=F.more (K':=fun i=>i=Q.heap.size) J fun i hi=> .inr (by rw[ρ];omega)
 have q:=η (E.append (by omega) [115] (by decide) (-1) (L:=[⟨[116],[],0⟩]) (fun W _ hs=>(by
  have:=(C.same (hs _ rfl)).evs (L:=[⟨[116],[],0⟩]) (k:=1) (by decide) (by decide)
  rwa [Δ (by decide)] at this)) (z6A (by decide)) (by decide) y5e)
 clear F J C E I B v;go_wp2_with fail;refine q.o.mono ?_;rintro e w4 ⟨x,y,bs',rfl,b,_,h3⟩;rcases h3 with⟨h3,_⟩|⟨_,_,_,_,h3⟩|⟨_,rfl,rfl,rfl⟩
 ·exact absurd rfl h3
 ·omega
 have S:=η (z3o b (by omega) (show 0<(tos ([]++[⟨[115],(q0y [] [115]).length,[⟨[116],[],0⟩]⟩])).length by decide) T (by omega) Y.o);clear b q;go_wp2_with fail;refine S.o.mono ?_;rintro e w5 ⟨rfl,b,_⟩;have Z:=η b.base;clear b S;go_wp2_with fail;go_ret;exact⟨rfl,Z.o⟩
def apN(bs:List Bt)(str:List UInt8)(L:List Ev):Int×Int:=if z6K bs str (-2) L=0 then(((q0y bs str).length:Int),0) else(0,z6K bs str (-2) L)
def apB(bs:List Bt)(str:List UInt8)(L:List Ev):List Bt:=if z6K bs str (-2) L=0 then bs++[⟨str,(q0y bs str).length,L⟩] else bs
theorem z1F(bs:List Bt)(b:Bt)(str:List UInt8):(q0y bs str).length<=(q0y (bs++[b]) str).length:=by
 rw[q5C,θ];omega
theorem y3d(bs:List Bt)(str:List UInt8)(L:List Ev)(st:List UInt8):(q0y bs st).length<=(q0y (apB bs str L) st).length:=by
 unfold apB;split
 ·exact z1F _ _ _
 ·exact ι _
theorem y2H(bs:List Bt)(str:List UInt8)(L:List Ev):(apB bs str L).length<=bs.length+1:=by
 unfold apB;split<;>simp
theorem y4s{bs:List Bt}(h:okBs bs){str:List UInt8}{a:Int}(j:bs.length<=1000)(d: ∀e∈L,e.we<18446744073709551616):okBs (wrB bs str a L):=by
 unfold wrB;by_cases b:z6K bs str a L=0
 ·rw [ξ b]
  have hc:q0Q str 0 L=0:=by
   unfold z6K at b;by_cases hc:q0Q str 0 L=0
   ·exact hc
   ·rw[ξ hc] at b;exact absurd b hc
  have h1:=z1E bs str;have h2:=z1n h;exact okBs_snoc.2 ⟨h,⟨q4x (n:=(q0y bs str).length) hc (by omega),d⟩,rfl⟩
 ·rw[κ b];exact h
theorem y3e{bs:List Bt}(h:okBs bs){str:List UInt8}(d:bs.length<=1000)(b: ∀e∈L,e.we<18446744073709551616):okBs (apB bs str L):=y4s (a:= -2) h d b
def InW(P:Bool->Option (Nat×Int))(i:Nat):Prop:= ∃k s,P k=some (i,s)
structure TW(wb W:World)(g gs rate:Nat)(sd c:Int)(u n:Nat)(bs:List Bt)(mb:Nat)(vL vM:Value)(k:Nat)(bs2:List Bt)(str:List UInt8)(P D:Bool->Option (Nat×Int))(X:Nat->Prop):Prop where
 sk:SK wb W g gs rate sd c 0 u n bs (fun i=>MoB mb vL vM i\/InW P i\/InW D i\/X i)
 mo: ∃ms,MoI W mb wb.heap.size vL vM (tos bs2) ms/\ms.length<=k
 ok2:okBs bs2
 few2:bs2.length<=k
 lowM: ∀i,MoB mb vL vM i->wb.heap.size<=i/\¬X i
 pI: ∀j x s,P j=some (x,s)->WrI W x gs str s/\ -1<=s/\s<((q0y bs str).length:Int)
 dI: ∀j x s,D j=some (x,s)->RwI W x mb str s/\ -1<=s/\s<((q0y bs2 str).length:Int)
 pA: ∀j x s,P j=some (x,s)->¬MoB mb vL vM x/\¬X x/\¬InW D x/\(∀s',P (!j)≠some (x,s'))/\wb.heap.size<=x
 dA: ∀j x s,D j=some (x,s)->¬MoB mb vL vM x/\¬X x/\(∀s',D (!j)≠some (x,s'))/\wb.heap.size<=x
section
variable {wb w W W':World}{g gs mb rate u n k:Nat}{sd c:Int}{bs bs2:List Bt}{vL vM:Value}{str:List UInt8}{P D:Bool->Option (Nat×Int)}{X X':Nat->Prop}
theorem TW.lt(h:TW wb W g gs rate sd c u n bs mb vL vM k bs2 str P D X)(b:MoB mb vL vM i\/InW P i\/InW D i\/X i):i<W.heap.size:=h.sk.klt i b
theorem TW.grow(h:TW wb W g gs rate sd c u n bs mb vL vM k bs2 str P D X)(e:Ext W W'):TW wb W' g gs rate sd c u n bs mb vL vM k bs2 str P D X:=by
 obtain⟨l,hm,d⟩:=h.mo;exact⟨h.sk.grow e,⟨l,hm.ext e,d⟩,h.ok2,h.few2,h.lowM,fun j x s b=>⟨Blk.ext (h.pI j x s b).1 e,(h.pI j x s b).2⟩,fun j x s b=>⟨Blk.ext (h.dI j x s b).1 e,(h.dI j x s b).2⟩,h.pA,h.dA⟩
theorem TW.more(h:TW wb W g gs rate sd c u n bs mb vL vM k bs2 str P D X)(e:Ext W W')(y: ∀i,X' i->X i\/(W.heap.size<=i/\i<W'.heap.size)):TW wb W' g gs rate sd c u n bs mb vL vM k bs2 str P D X':=by
 have d:=h.grow e;have r: ∀i,(MoB mb vL vM i\/InW P i\/InW D i)->¬X i->¬X' i:=fun i b B v=>by
  have:i<W.heap.size:=h.lt (by rcases b with h|h|h;exact .inl h;exact .inr (.inl h);exact .inr (.inr (.inl h)));rcases y i v with h|h
  ·exact B h
  ·omega
 refine⟨h.sk.more e fun i b=>?_,d.mo,d.ok2,d.few2,fun i b=>⟨(h.lowM i b).1,r i (.inl b) (h.lowM i b).2⟩,d.pI,d.dI,fun j x s l=>?_,fun j x s l=>?_⟩
 ·rcases b with b|b|b|b
  ·exact .inl (.inl b)
  ·exact .inl (.inr (.inl b))
  ·exact .inl (.inr (.inr (.inl b)))
  ·exact(y i b).imp (fun h=> .inr (.inr (.inr h))) id
 ·obtain⟨a1,o,q⟩:=h.pA j x s l
  exact⟨a1,r x (.inr (.inl ⟨j,s,l⟩)) o,q⟩
 ·obtain⟨a1,o,q⟩:=h.dA j x s l
  exact⟨a1,r x (.inr (.inr ⟨j,s,l⟩)) o,q⟩
theorem TW.modelled(h:TW wb w g gs rate sd c u n bs mb vL vM k bs2 str P D X){F:Nat->Prop}{o q:Value}{y:List Value}(hm:MoI W mb wb.heap.size o q (tos bs') y)(hl:y.length<=k+1)(Q:okBs bs')(C:bs'.length<=k+1)
  (G:w.heap.size<=W.heap.size)(l:Ios w W)(S: ∀i,i<w.heap.size->¬MoB mb vL vM i->¬F i->W.heap[i]? =w.heap[i]?)(M: ∀i,MoB mb o q i->MoB mb vL vM i\/w.heap.size<=i)(he:(q0y bs2 str).length<=(q0y bs' str).length)
  {D':Bool->Option (Nat×Int)}(hF: ∀i,F i->InW D i)(R: ∀i,InW D' i->InW D i)(O: ∀j x s,D' j=some (x,s)->RwI W x mb str s/\ -1<=s/\s<((q0y bs' str).length:Int))(B: ∀j x s,D' j=some (x,s)-> ∃J,D j=some (x,J)):
  TW wb W g gs rate sd c u n bs mb o q (k+1) bs' str P D' X/\Stay X w W:=by
 have N: ∀i,F i->wb.heap.size<=i:=fun i b=>by obtain⟨j,s,d⟩:=hF i b;exact(h.dA j i s d).2.2.2
 have v: ∀i,i<w.heap.size->¬MoB mb vL vM i->¬InW D i->W.heap[i]? =w.heap[i]? :=fun i h1 h2 h3=>S i h1 h2 fun Z=>h3 (hF i Z)
 have hx:Ext wb W:=Below.trans h.sk.base ⟨l.1,l.2.1,l.2.2,G,fun i b=>S i (Ψ b h.sk.base.size) (fun e=>by have:=(h.lowM i e).1;omega) fun e=>by have:=N i e;omega⟩;have r: ∀i,(InW P i\/InW D i\/X i)->¬MoB mb vL vM i->¬MoB mb o q i:=fun i b I Y=>by
  have:i<w.heap.size:=h.lt (.inr b);rcases M i Y with h1|h1
  ·exact I h1
  ·omega
 refine⟨⟨h.sk.sideM G hx (fun i b I=>v i b (fun e=>I (.inl e)) fun e=>I (.inr (.inr (.inl e)))) fun i b=>?_,⟨y,hm,hl⟩,Q,C,fun i b=>?_,fun j x s d=>?_,O,fun j x s d=>?_,fun j x s d=>?_⟩,fun i b=>?_⟩
 ·rcases b with b|b|b|b
  ·rcases M i b with h1|h1
   ·exact .inl (.inl h1)
   ·exact .inr ⟨h1,hm.lt b⟩
  ·exact .inl (.inr (.inl b))
  ·exact .inl (.inr (.inr (.inl (R i b))))
  ·exact .inl (.inr (.inr (.inr b)))
 ·rcases M i b with h1|h1
  ·exact h.lowM i h1
  ·exact⟨Ω h.sk.base.size h1,fun V=>by have:=h.lt (.inr (.inr (.inr V)));omega⟩
 ·obtain⟨a1,U⟩:=h.pI j x s d
  obtain⟨b1,b2,b3,b4⟩:=h.pA j x s d;exact⟨Blk.same a1 (v x (h.lt (.inr (.inl ⟨j,s,d⟩))) b1 b3),U⟩
 ·obtain⟨b1,b2,b3,b4⟩:=h.pA j x s d
  exact⟨r x (.inl ⟨j,s,d⟩) b1,b2,fun e=>b3 (R x e),b4⟩
 ·obtain⟨J,E⟩:=B j x s d
  obtain⟨b1,b2,b3,b4⟩:=h.dA j x J E;exact⟨r x (.inr (.inl ⟨j,J,E⟩)) b1,b2,fun s2 e=>(by obtain⟨s3,h3⟩:=B _ _ _ e;exact b3 s3 h3),b4⟩
 ·exact v i (h.lt (.inr (.inr (.inr b)))) (fun e=>(h.lowM i e).2 b) fun ⟨j,s,d⟩=>(h.dA j i s d).2.1 b
theorem TW.bd2(h:TW wb w g gs rate sd c u n bs mb vL vM k bs2 str P D X)(b:k<=1000):(tos bs2).length<=8000:=by
 have h1:=z1n h.ok2;have h2:=h.few2;omega
theorem y3m(l: ∀W,Ext wb W->Evs W ao m cap L): ∀a,ao=some a->0<m->a.block<wb.heap.size:=fun a e hm=>by
 obtain⟨b,off,d,j,_⟩:=(l wb (Ext.refl _)).at (i:=0) hm;rw[e] at d;cases d;exact World.block_lt_of_cell? _ _ j
theorem TW.app2(h:TW wb w g gs rate sd c u n bs mb vL vM k bs2 str P D X)(Q:k<=1000)(R:str.length<=4611686018427387903)(B: ∀W,Ext wb W->Evs W ao m cap L)(M:q2V L)(l: ∀e∈L,e.we<18446744073709551616):
  Calls Tryz.prog 57 #[.pointer (some ⟨mb,0,none⟩),.string ⟨str.toArray⟩,.int .i64 (-2),.slice ao m cap] w fun e w'=>e= .returned (.tuple #[.int .i64 (apN bs2 str L).1,.int .i64 (apN bs2 str L).2])/\Stay X w w'/\
   ∃o q,TW wb w' g gs rate sd c u n bs mb o q (k+1) (apB bs2 str L) str P D X:=by
 obtain⟨Z,hm,Y⟩:=h.mo;have V:=h.bd2 Q;have v:=h.few2;refine(z6m hm h.ok2 (h.lowM mb (.inl rfl)).1 str R (-2) (B w h.sk.base) (fun a e E N=>by have:=y3m B a e E;have:=(h.lowM _ N).1;omega) M l (by omega) (by omega) rfl).mono ?_;rintro e w' ⟨o,q,S,bs',x,y,rfl,h1,h2,h3,h4,G,I,J⟩;have O:x=(apN bs2 str L).1/\y=(apN bs2 str L).2/\bs'=apB bs2 str L:=by
  unfold apN apB;rcases I with⟨h3,rfl,rfl,rfl⟩|⟨h3,rfl,rfl,rfl⟩
  ·rw[κ h3,κ h3];exact⟨rfl,rfl,rfl⟩
  ·rw[ξ h3,ξ h3];exact⟨rfl,rfl,rfl⟩
 obtain⟨rfl,rfl,rfl⟩:=O;have he:=y3d bs2 str L str;have:=h.modelled (F:=fun _=>False) (D':=D) h1 (by omega) (y3e h.ok2 (by omega) l) (Ω (y2H _ _ _) (by omega)) h3 J (fun i a b _=>h4 i a b) G he (fun i r=>r.elim) (fun i r=>r) (fun j x s d=>?_) (fun j x s d=>⟨s,d⟩)
 ·exact⟨rfl,this.2,_,_,this.1⟩
 ·obtain⟨a1,C,U⟩:=h.dI j x s d
  exact⟨Blk.same a1 (h4 x (h.lt (.inr (.inr (.inl ⟨j,s,d⟩)))) (h.dA j x s d).1),C,by omega⟩
end
theorem q4m{b W:World}{q j:Nat}{v:Option Value}(h:b.heap.size=q)(k:W.cell? ⟨q,j,none⟩=v):W.cell? ⟨b.heap.size,j,none⟩=v:=h▸k
abbrev noP :Bool->Option (Nat×Int):=fun _=>none
theorem y1q:¬InW noP i:=fun ⟨_,_,h⟩=>by cases h
section
variable {wb w W W':World}{g gs gs' mb rate u n k:Nat}{sd c:Int}{bs bs2:List Bt}{vL vM:Value}{str str':List UInt8}{X X':Nat->Prop}
theorem TW.any(h:TW wb W g gs rate sd c u n bs mb vL vM k bs2 str noP noP X)(str':List UInt8):TW wb W g gs rate sd c u n bs mb vL vM k bs2 str' noP noP X:=
 ⟨h.sk,h.mo,h.ok2,h.few2,h.lowM,fun j x s b=>(by cases b),fun j x s b=>(by cases b),fun j x s b=>(by cases b),fun j x s b=>(by cases b)⟩
theorem TW.stored0(h:TW wb w g gs rate sd c u n bs mb vL vM k bs2 str noP noP X){u' o:Nat}(q:SK wb W g gs' rate sd c 0 u' o bs' (fun i=>MoB mb vL vM i\/InW noP i\/InW noP i\/X i))(l:Stay (fun i=>MoB mb vL vM i\/InW noP i\/InW noP i\/X i) w W):
  TW wb W g gs' rate sd c u' o bs' mb vL vM k bs2 str noP noP X/\Stay X w W:=by
 obtain⟨v,hm,r⟩:=h.mo;exact⟨⟨q,⟨v,hm.same fun i d=>l i (.inl d),r⟩,h.ok2,h.few2,h.lowM,fun j x s b=>(by cases b),fun j x s b=>(by cases b),fun j x s b=>(by cases b),fun j x s b=>(by cases b)⟩,fun i d=>l i (.inr (.inr (.inr d)))⟩
theorem TW.up(h:TW wb W g gs rate sd c u n bs mb vL vM k bs2 str noP noP X){k':Nat}(d:k<=k'):TW wb W g gs rate sd c u n bs mb vL vM k' bs2 str noP noP X:=by
 obtain⟨b,hm,j⟩:=h.mo;exact⟨h.sk,⟨b,hm,by omega⟩,h.ok2,by have:=h.few2;omega,h.lowM,h.pI,h.dI,h.pA,h.dA⟩
theorem TW.app1s(h:TW wb w g gs rate sd c u n bs mb vL vM k bs2 str noP noP X)(q:n<=86)(b:(u:Int)+8024<=c)(r:str.length<=4611686018427387903)(v: ∀W,Ext wb W->Stay X w W->Evs W ao m cap L)(j:q2V L)(d: ∀e∈L,e.we<18446744073709551616):
  Calls Tryz.prog 27 #[.pointer (some ⟨gs,0,none⟩),.string ⟨str.toArray⟩,.int .i64 (-2),.slice ao m cap] w fun e w'=>e= .returned (.tuple #[.int .i64 (apN bs str L).1,.int .i64 (apN bs str L).2])/\TW wb w' g gs rate sd c (u+2024) (n+1) (apB bs str L) mb vL vM k bs2 str noP noP X/\Stay X w w':=by
 refine(h.sk.append q str r (-2) (fun W C E=>v W C fun i o=>E i (.inr (.inr (.inr o)))) j d rfl).mono ?_;rintro e w' ⟨x,y,bs',rfl,k1,B,h3⟩;have l:x=(apN bs str L).1/\y=(apN bs str L).2/\bs'=apB bs str L:=by
  unfold apN apB;rcases h3 with⟨h3,rfl,rfl,rfl⟩|⟨_,_,_,_,h3⟩|⟨h3,rfl,rfl,rfl⟩
  ·rw[κ h3,κ h3];exact⟨rfl,rfl,rfl⟩
  ·omega
  ·rw[ξ h3,ξ h3];exact⟨rfl,rfl,rfl⟩
 obtain⟨rfl,rfl,rfl⟩:=l;exact⟨rfl,h.stored0 k1 B⟩
theorem TW.first{w1 l:World}(h:SK w1 l g gs rate sd 1048576 0 0 0 [] noI):
  TW w1 (l.alloc (.cells #[.slice none 0 0,.slice none 0 0,.int .i64 0] 75)) g gs rate sd 1048576 0 0 [] l.heap.size (.slice none 0 0) (.slice none 0 0) 0 [] [] noP noP (fun _=>False):=by
 have q:=q0B l (.cells #[.slice none 0 0,.slice none 0 0,.int .i64 0] 75);have o: ∀i,MoB l.heap.size (.slice none 0 0) (.slice none 0 0) i->i=l.heap.size:=fun i b=>by
  rcases b with b|b|b
  ·exact b
  ·cases b
  ·cases b
 have b1:=Blk.new l 75 #[.slice none 0 0,.slice none 0 0,.int .i64 0];refine⟨h.more q fun i b=>?_,⟨[],⟨⟨0,b1⟩,⟨rfl,.inl ⟨rfl,rfl⟩⟩,⟨rfl,.inl ⟨rfl,rfl⟩⟩⟩,ι _⟩,okBs.nil,ι _,fun i b=>⟨by rw[o i b];exact h.base.size,fun e=>e⟩,fun j x s d=>(by cases d),fun j x s d=>(by cases d),fun j x s d=>(by cases d),fun j x s d=>(by cases d)⟩;refine .inr ?_;simp only[ρ];rcases b with b|b|b|b
 ·rw[o i b];omega
 ·exact absurd b y1q
 ·exact absurd b y1q
 ·exact b.elim
end
def FMo(wb w:World)(g gs rate:Nat)(sd:Int)(u n:Nat)(bs:List Bt)(mb:Nat)(vL vM:Value):Prop:=TW wb w g gs rate sd 1048576 u n bs mb vL vM n bs [] noP noP (fun _=>False)
theorem y0d{n:Nat}(sd:Int)(rate:Nat)(l:Int)(w:World)(hx:Acs w ao n cap A)(b1:0<=sd)(f1:sd<18446744073709551616)(i1:n<=40)(I0: ∀x∈A,x.st.length<=300/\x.n<=20/\ ∀e∈x.L,e.ty.length<=300/\e.da.length<=300):
  Calls Tryz.prog 18 #[.slice ao n cap,.agg #[.int .u64 sd,.float .f64 rate,.int .u16 l]] w fun e w'=> ∃g gs mb u m bs vL vM,e= .returned (.tuple #[.pointer (some ⟨g,0,none⟩),.pointer (some ⟨gs,0,none⟩),.pointer (some ⟨mb,0,none⟩),.bool true])/\FMo (w.alloc (.cells #[.int .u64 sd,.float .f64 rate,.int .u16 l] 44)) w' g gs rate sd u m bs mb vL vM/\u<=800000/\m<=40:=by
 have N0:=q0B w (.cells #[.int .u64 sd,.float .f64 rate,.int .u16 l] 44);have F0:=Blk.new w 44 #[.int .u64 sd,.float .f64 rate,.int .u16 l];have m0:=η F0;have Z:=η (hx.ext N0);have g1:=hx.len;have l1:=hx.fits;have m1:=hx.bound;have y0:=η I0;have HO:=η (q7P sd rate l (w.alloc (.cells #[.int .u64 sd,.float .f64 rate,.int .u16 l] 44)) b1 f1);clear hx N0 F0 I0;go_enter Tryz.func18,Tryz.ntmps18;obtain⟨w1,v0⟩: ∃w1,w.alloc (.cells #[.int .u64 sd,.float .f64 rate,.int .u16 l] 44)=w1:=⟨_,rfl⟩
 rw[v0] at m0 Z HO;obtain⟨q0,u0⟩: ∃q0,w.heap.size=q0:=⟨_,rfl⟩
 have A0:=η v0;have f0:=η u0;rw[u0] at m0;clear v0 u0;go_wp2_with fail;rw[A0.o];refine HO.o.mono ?_;rintro e w2 ⟨g,gs,rfl,hk⟩;have HF:=η (TW.first hk);clear hk HO;go_wp2_with fail
 go_loopw [9,10,12] (fun os ok oi W=> ∃(gs j u m:Nat) (bs:List Bt) (vL vM:Value),os= .pointer (some ⟨gs,0,none⟩)/\ok= .bool true/\oi= .int .i64 (j:Int)/\j<=n/\u<=20000*j/\m<=j/\TW w1 W g gs rate sd 1048576 u m bs w2.heap.size vL vM m bs [] noP noP (fun _=>False)) (fun _ _ i _=>n-(intOf i).toNat)
 case atStart=>exact⟨gs,0,0,0,[],_,_,rfl,rfl,rfl,υ _,ι _,ι _,HF.o⟩
 case round=>
  obtain⟨gs,j,u,m,bs,vL,vM,rfl,rfl,rfl,hj,hu,hm,M0⟩:=hrel;have Q:=η M0;have r0:=η hu;have Z0:m<=40:=by omega
  have Q0:=η hm;clear M0 hu hm HF;by_cases t0:j<n
  ·have hd:decide ((j:Int)<(n:Int))=true:=ζ (by omega)
   have o1:(j:Int)<(n:Int):=by omega
   have q8:IntKind.i64.wrap ((j:Int)+1)=(j:Int)+1:=by rw[ν];omega
   obtain⟨b0,off,rfl,c0,c1,c2,c3,c4,G0,J0⟩:=(Z.o.ext Q.o.sk.base).at t0;have Y:=y0.o (A.getD j ac0) (z2A (by omega));have U: ∀W,Ext w1 W->Evs W (A.getD j ac0).ao (A.getD j ac0).n (A.getD j ac0).cap (A.getD j ac0).L:=fun W kk=>by
    obtain⟨_,_,_,_,_,_,_,_,O,_⟩:=(Z.o.ext kk).at t0;exact O
   generalize A.getD j ac0=x at*;obtain⟨kd,st,xa,xb,R,en,G,L⟩:=x;simp only at c0 c1 c2 c3 c4 G0 Y U;have x0:=η U;have B0:Hd (∀e∈L,e.we<18446744073709551616):=η fun e he=>(J0.e e he).2.2
   have z0:Hd (q2V L):=η (z6A Y.2.2);have n1:en<=20:=Y.2.1;have j1:st.length<=300:=Y.1;clear U G0 J0 Y;obtain⟨q,hq⟩: ∃q,wr.heap.size=q:=⟨_,rfl⟩
   have O0:=q0B wr (.cells #[.int .u8 kd,.string ⟨st.toArray⟩,.int .i64 xa,.int .i64 xb,.slice R en G] 108);have s0:=Blk.new wr 108 #[.int .u8 kd,.string ⟨st.toArray⟩,.int .i64 xa,.int .i64 xb,.slice R en G];have a1:w1.heap.size<=q:=by rw[<-hq];exact Q.o.sk.base.size
   rw[hq] at s0;have o0:=η s0;obtain⟨X,hX⟩: ∃X:Nat->Prop,(fun i=>i=q)=X:=⟨_,rfl⟩
   have D0:X q:=by rw[<-hX]
   have U0:=η D0;have T0:Hd (∀i,X i->i=q):=η fun i r=>by rw[<-hX] at r;exact r
   have d:=η ((Q.o.more (X':=X) O0 fun i r=> .inr (by have:=T0.o i r;rw[ρ];omega)).any st);have l0:Hd (∀W,Ext w1 W->Blk W q0 44 #[.int .u64 sd,.float .f64 rate,.int .u16 l]):=η fun W kk=>m0.o.ext kk
   have J:Hd (∀(W:World) (gs' u' m':Nat) (bs':List Bt) (i0 j0:Value),u'<=u+20000->m'<=m+1->TW w1 W g gs' rate sd 1048576 u' m' bs' w2.heap.size i0 j0 m' bs' st noP noP X->
     j+1<=n/\u'<=20000*(j+1)/\m'<=j+1/\TW w1 W g gs' rate sd 1048576 u' m' bs' w2.heap.size i0 j0 m' bs' [] noP noP (fun _=>False)):=
    η fun W gs' u' m' bs' i0 j0 h1 h2 h3=>⟨by omega,by have:=r0.o;omega,by have:=Q0.o;omega,(h3.more (Ext.refl _) fun i r=>r.elim).any []⟩
   have HQ:=η hq;obtain⟨E,p1⟩: ∃E,kd.tmod 14=E:=⟨_,rfl⟩
   clear O0 s0 hq hX D0 Q a1;by_cases h8:E=8
   ·have d8:(E==(8:Int))=true:=by rw[h8];rfl
    clear h8;have F:=η d.o.sk.flush;go_wp2_with fail;refine F.o.mono ?_;rintro e w3 ⟨rfl,h1,h2⟩;have M:=η (d.o.stored0 (h1.mono (ι _) (ι _)) h2).1;clear h1 h2 F;go_wp2_with fail
    go_roundw
    case rel=>exact(fun h=>⟨_,j+1,_,_,_,_,_,rfl,rfl,by go_num,h.1,h.2.1,h.2.2.1,h.2.2.2⟩) (J.o _ _ _ _ _ _ _ (by omega) (by omega) M.o)
    case measure=>simp[intOf];omega
   have d8:(E==(8:Int))=false:=by simpa using h8
   by_cases O:E=9
   ·have d9:(E==(9:Int))=true:=by rw[O];rfl
    clear h8 O;have F:=η (d.o.sk.index (by omega));go_wp2_with fail;refine F.o.mono ?_;rintro e w3 ⟨y,rfl,_,h1,h2⟩;have M:=η ((d.o.stored0 h1 h2).1.up (k':=m+1) (by omega));clear h1 h2 F;go_wp2_with fail
    go_roundw
    case rel=>exact(fun h=>⟨_,j+1,_,_,_,_,_,rfl,rfl,by go_num,h.1,h.2.1,h.2.2.1,h.2.2.2⟩) (J.o _ _ _ _ _ _ _ (by omega) (by omega) M.o)
    case measure=>simp[intOf];omega
   have d9:(E==(9:Int))=false:=by simpa using O
   by_cases B:E=10
   ·have V0:(E==(10:Int))=true:=by rw[B];rfl
    clear h8 O B;have F:=η (fun v=>d.o.sk.merge (by omega) v);go_wp2_with fail;refine(F.o _).mono ?_;rintro e w3 ⟨y,rfl,_,h1,h2⟩;have M:=η ((d.o.stored0 h1 h2).1.up (k':=m+1) (by omega));clear h1 h2 F;go_wp2_with fail
    go_roundw
    case rel=>exact(fun h=>⟨_,j+1,_,_,_,_,_,rfl,rfl,by go_num,h.1,h.2.1,h.2.2.1,h.2.2.2⟩) (J.o _ _ _ _ _ _ _ (by omega) (by omega) M.o)
    case measure=>simp[intOf];omega
   have V0:(E==(10:Int))=false:=by simpa using B
   by_cases N:E=11
   ·have W0:(E==(11:Int))=true:=by rw[N];rfl
    clear h8 O B N;have F:=η (fun v=>d.o.sk.merge (by omega) v);go_wp2_with fail;refine(F.o _).mono ?_;rintro e w3 ⟨y,rfl,_,h1,h2⟩;have M:=η ((d.o.stored0 h1 h2).1.up (k':=m+1) (by omega));clear h1 h2 F;go_wp2_with fail
    go_roundw
    case rel=>exact(fun h=>⟨_,j+1,_,_,_,_,_,rfl,rfl,by go_num,h.1,h.2.1,h.2.2.1,h.2.2.2⟩) (J.o _ _ _ _ _ _ _ (by omega) (by omega) M.o)
    case measure=>simp[intOf];omega
   have W0:(E==(11:Int))=false:=by simpa using N
   by_cases S:E=12
   ·have X0:(E==(12:Int))=true:=by rw[S];rfl
    clear h8 O B N S;have F:=η (d.o.sk.disk.open (by omega) rate);have hh:=l0.o _ d.o.sk.base;have k0:=q4m f0.o (hh.cell 0);have k1:=q4m f0.o (hh.cell 1);clear hh;go_wp2_with fail;refine F.o.mono ?_;rintro e w3 ⟨gs',rfl,h1,h2⟩;have M:=η (d.o.stored0 h1 h2).1;clear h1 h2 F k0 k1;go_wp2_with fail
    go_roundw
    case rel=>exact(fun h=>⟨_,j+1,_,_,_,_,_,rfl,rfl,by go_num,h.1,h.2.1,h.2.2.1,h.2.2.2⟩) (J.o _ _ _ _ _ _ _ (by omega) (by omega) M.o)
    case measure=>simp[intOf];omega
   have X0:(E==(12:Int))=false:=by simpa using S
   by_cases g0:E=13
   ·have Y0:(E==(13:Int))=true:=by rw[g0];rfl
    clear h8 O B N S g0;have F:=η (d.o.sk.disk.open (by omega) rate);have hh:=l0.o _ d.o.sk.base;have k0:=q4m f0.o (hh.cell 0);have k1:=q4m f0.o (hh.cell 1);clear hh;go_wp2_with fail;refine F.o.mono ?_;rintro e w3 ⟨gs',rfl,h1,h2⟩;have M:=η (d.o.stored0 h1 h2).1;clear h1 h2 F k0 k1;go_wp2_with fail
    go_roundw
    case rel=>exact(fun h=>⟨_,j+1,_,_,_,_,_,rfl,rfl,by go_num,h.1,h.2.1,h.2.2.1,h.2.2.2⟩) (J.o _ _ _ _ _ _ _ (by omega) (by omega) M.o)
    case measure=>simp[intOf];omega
   have Y0:(E==(13:Int))=false:=by simpa using g0
   clear h8 O B N S g0;have e1:=q4m HQ.o (o0.o.cell 1);have e4:=q4m HQ.o (o0.o.cell 4);go_wp2_with fail;have d1:=q0A (Ext.refl _).drew e1;have d4:=q0A (Ext.refl _).drew e4;have p0:=η (d.o.grow (Ext.refl _).drew);refine q1q (fun W:World=>W.cell? ⟨wr.heap.size,1,none⟩=some (.string ⟨st.toArray⟩)/\W.cell? ⟨wr.heap.size,4,none⟩=some (.slice R en G)) 10 (by kernel_rfl) ⟨d1,d4⟩ (fun b=>?_);refine q0j 0 b (fun b=>?_);refine q0j 1 b (fun b=>?_);refine q5P 2 b (fun b=>?_);refine q0j 3 b (fun b=>?_);refine q5P 4 b (fun b=>?_);simp only[Act.put,π,ψ,ω];refine q0n (i:=5) (by kernel_rfl) rfl (fun K hK=>?_);have I:=x0.o _ p0.o.sk.base;refine q1U rfl (.const (.slice none 0 0)) (.tmp 49) 82 rfl w1.heap.size 66 _ 3 40 Tryz.underlying82 Tryz.infoEv (by decide) (by decide) (.slice none 0 0) 0 [] rfl ⟨rfl,.inl ⟨rfl,rfl⟩⟩ R en G (q7f L) rfl (by rw[q5z,I.len]) I.nil I.rd (z5K _) (by unfold maxLen;omega) (by omega) p0.o.sk.base.size ?_;intro v2 w8 C V E0;rw[Nat.zero_add] at C;rw[List.nil_append] at C;obtain⟨oa,oc,rfl⟩:=q0G C;have w0:Ext (wr.alloc (.cells #[.int .u8 kd,.string ⟨st.toArray⟩,.int .i64 xa,.int .i64 xb,.slice R en G] 108)).drew w8:=Below.grown (Ext.refl _) V (ι _) (fun i e=>by cases e);obtain⟨X2,h0⟩: ∃X2:Nat->Prop,(fun i=>X i\/(Value.slice oa en oc).ownBlock=some i)=X2:=⟨_,rfl⟩
   have R0:=η (p0.o.more (X':=X2) w0 fun i r=>by
    rw[<-h0] at r;rcases r with r|r
    ·exact .inl r
    ·refine .inr ⟨?_,(q0a C i r).2⟩
     rcases E0 with h|h
     ·rw[h] at r;cases r
     ·rw[h] at r;cases r;exact ι _)
   have C0:Hd (∀i,X i->X2 i):=η fun i r=>by rw[<-h0];exact .inl r
   have P0:Hd (∀W,Stay X2 w8 W->Evs W oa en oc L):=η fun W kk=>by
    have hr:=q0t C fun i r=>kk i (by rw[<-h0];exact .inr r)
    have hl:=I.len;rw[<-hl] at hr⊢;obtain⟨q1,r1,e1,H0⟩:=Evs.of_own (Own.of_row hr)
    cases e1;exact H0
   have n0:=η (o0.o.ext ((Ext.refl _).drew.trans w0));have d0:=η (R0.o.app1s (by omega) (by have:=r0.o;omega) (by omega) (fun W _ ss=>P0.o W ss) z0.o B0.o);obtain⟨y1,y2,hy⟩: ∃y1 y2,apN bs st L=(y1,y2):=⟨_,_,rfl⟩
   rw[hy] at d0;simp only at d0;have HY:=η hy;refine hK.out _ _ ⟨q4m HQ.o (n0.o.cell 1),q4m HQ.o (n0.o.cell 4)⟩ (fun b=>?_);clear hK K C V E0 w0 h0 I hy d1 d4 e1 e4
   try simp only[Act.put,π,ψ,ω]
   refine q0n (i:=6) (by kernel_rfl) rfl (fun K hK=>?_)
   go_simp
   go_at_call 27
   refine d0.o.mono ?_;rintro e w9 ⟨rfl,O,L0⟩;have a0:=η (n0.o.same (L0 q (C0.o q U0.o)));have S0:=η (O.more (X':=X) (Ext.refl _) fun i r=> .inl (C0.o i r));refine hK.out _ _ ⟨q4m HQ.o (a0.o.cell 1),q4m HQ.o (a0.o.cell 4)⟩ (fun b=>?_);clear hK K O L0 d0
   try simp only[Act.put,π,ψ,ω]
   refine q0j 7 b (fun b=>?_);refine q0j 8 b (fun b=>?_);refine q0j 9 b (fun b=>?_);simp only[Act.put,π,ψ,ω];refine q2K (by kernel_rfl) ?_
   try simp only[List.drop_succ_cons,List.drop_zero]
   clear b;have e1:=q4m HQ.o (a0.o.cell 1);have e4:=q4m HQ.o (a0.o.cell 4);have e0:=η (S0.o.app2 (by omega) (by omega) x0.o z0.o B0.o);rw[HY.o] at e0;simp only at e0;go_wp2_with fail;refine e0.o.mono ?_;rintro e s1 ⟨rfl,K0,i0,j0,B⟩;have M:=η B;clear K0 B e0 e1 e4;go_wp2_with fail
   go_roundw
   case rel=>exact(fun h=>⟨_,j+1,_,_,_,_,_,rfl,rfl,by go_num,h.1,h.2.1,h.2.2.1,h.2.2.2⟩) (J.o _ _ _ _ _ _ _ (by omega) (by omega) M.o)
   case measure=>simp[intOf];omega
  ·obtain rfl:j=n:=by omega
   have hd:decide ((j:Int)<(j:Int))=false:=ε (by omega);clear y0 Z t0;go_wp2_with fail;refine bodyPost_ret (q5L rfl _ _ _) rfl ?_;exact⟨g,gs,w2.heap.size,u,m,bs,vL,vM,rfl,by rw[A0.o];exact Q.o,by have:=r0.o;omega,Z0⟩
theorem z2M : ∀(L acc:List To),q6P acc L=true->((L.map toB).flatten).length<=400*L.length
 |[],_,_=>υ _
 | t::r,acc,h=>by
  rw[q6P,Ξ] at h;obtain⟨h1,h2,_⟩:=z2N h.1;have h3:=z3N h1 h2;have h4:=z2M r _ h.2;rw[List.map_cons,List.flatten_cons,θ,χ];omega
theorem y2P{bs:List Bt}(h:okBs bs):(q0T (q1d (tos bs))).length<=17+400*(tos bs).length/\17<=(q0T (q1d (tos bs))).length:=by
 have h1:=z2M _ _ (z0y bs h);rw[q0d];unfold q1d;rw[θ,q6Q];omega
theorem y2Q{bs:List Bt}(h:okBs bs)(b:(tos bs).length<=1000){T:List UInt8}(l:q0T (q1d (tos bs))=T):
  (∀k u d,T[k]? =some u->d≠u->q2N (T.set k d)=([],10))/\(∀k,k<T.length->q2N (T.take k)=([],10))/\q2N (T++[0])=([],10):=by
 subst l;have hc:=z0y bs h;have j:=y1z h;refine⟨fun k u d r o=>z7c _ k u d r o,fun k q=>y0C hc j b k q,?_⟩;rcases y0D (q0T (q1d (tos bs))++[0]) with e|⟨M,e⟩
 ·exact e
 ·exact absurd e (z7d (z4w hc j b) 0 M)
theorem copiestorn_c{n:Nat}(sd:Int)(rate:Nat)(r:Int)(a0:Int)(Z:UInt8)(w:World)(q:Acs w ao n cap A)(U0:0<=sd)(V0:sd<18446744073709551616)(F1:0<=a0)(G1:a0<=255):
  Calls Tryz.prog 5 #[.slice ao n cap,.agg #[.int .u64 sd,.float .f64 rate,.int .u16 r],.agg #[.int .u8 a0,.int .u8 (Z.toNat:Int)]] w fun e w'=>e= .returned (.bool true)/\Ext w w':=by
 have h0:=q0B w (.cells #[.int .u64 sd,.float .f64 rate,.int .u16 r] 44);have V:=q0B (w.alloc (.cells #[.int .u64 sd,.float .f64 rate,.int .u16 r] 44)) (.cells #[.int .u8 a0,.int .u8 (Z.toNat:Int)] 45);have O0:=(Blk.new w 44 #[.int .u64 sd,.float .f64 rate,.int .u16 r]).ext V;have u0:=Blk.new (w.alloc (.cells #[.int .u64 sd,.float .f64 rate,.int .u16 r] 44)) 45 #[.int .u8 a0,.int .u8 (Z.toNat:Int)];rw[ρ] at u0;have HG:=η (y2b 30 _ (q.ext (h0.trans V)));have HX:=η (h0.trans V);have y:=η O0;have x:=η u0;have HA:=η (q.ext (h0.trans V));have HQ:=η y0I;have A1:=q.len;have D1:=q.fits;have E1:=q.bound;obtain⟨z,hz⟩: ∃z,q7h A 30=z:=⟨_,rfl⟩
 rw[hz] at HG;clear q h0 O0 V u0;go_enter Tryz.func5,Tryz.ntmps5;go_wp2_with fail;refine HG.o.mono ?_;rintro e w1 ⟨rfl,q⟩;have Y:=η (HX.o.trans q);have y:=η (y.o.ext q);have x:=η (x.o.ext q);have E0:=η (HA.o.ext q);clear q HG HA HX
 cases z with
 | true=>
  go_wp2_with fail;refine(HQ.o _).mono ?_;rintro e w2 ⟨rfl,q⟩;have s0:=η (Y.o.trans q);clear q;go_wp2_with fail;go_ret;exact⟨rfl,s0.o⟩
 | false=>
  have k1:=x.o.cell 1;by_cases w0:Z=0
  ·subst w0
   go_wp2_with fail;refine(HQ.o _).mono ?_;rintro e w2 ⟨rfl,q⟩;have s0:=η (Y.o.trans q);clear q;go_wp2_with fail;go_ret;exact⟨rfl,s0.o⟩
  have H1:((Z.toNat:Int)==0)=false:=by
   rw[beq_eq_false_iff_ne];intro h;apply w0;apply UInt8.toNat_inj.1
   simpa using h
  have A0:=z8w hz;have T0:n<=40:=by have:=A0.1;omega
  have f0:=y.o;have d0:=f0.cell 0;have d1:=f0.cell 1;have d2:=f0.cell 2;have H0:=η (y0d sd rate r w1 E0.o U0 V0 T0 A0.2);have E:=η (q0B w1 (.cells #[.int .u64 sd,.float .f64 rate,.int .u16 r] 44));clear A0 hz f0;go_wp2_with fail;refine H0.o.mono ?_;rintro e w2 ⟨g,gs,mb,u,m,bs,vL,vM,rfl,hF,hu,hm⟩;obtain⟨wf,Y0⟩: ∃wf,w1.alloc (.cells #[.int .u64 sd,.float .f64 rate,.int .u16 r] 44)=wf:=⟨_,rfl⟩
  rw[Y0] at hF E;have HF:Hd (TW wf w2 g gs rate sd 1048576 u m bs mb vL vM m bs [] noP noP (fun _=>False)):=η hF;have z1:=HF.o.sk.few;have B0:=HF.o.sk.ok;have t0:=y2P B0;obtain⟨T,hT⟩: ∃T,q0T (q1d (tos bs))=T:=⟨_,rfl⟩
  obtain⟨t1,t2,t3⟩:=y2Q B0 (by omega) hT;have hD:=y0J HF.o.sk (by omega);rw[hT] at hD t0;have HD:=η hD;have i1:=η t1;have j1:=η t2;have l1:=η t3;have o1:=η (E.o);have x1:=y.o.ext (E.o.trans HF.o.sk.base);have J:=x.o.ext (E.o.trans HF.o.sk.base);have N0:=η (Y.o.trans E.o);have W0:T.length<=900000:=by omega
  have X0:17<=T.length:=t0.2;clear hF hu Y0 H0 d0 d1 d2 B0 t0 t1 t2 t3 hD k1;go_wp2_with fail;refine HD.o.mono ?_;rintro e w3 ⟨rfl,hk,_⟩;have B:=hk.base;have y:=η (y.o.ext (E.o.trans B));have x:=η (x.o.ext (E.o.trans B));have r1:=η (N0.o.trans B);have e0:=y.o.cell 0;have e1:=y.o.cell 1;have e2:=y.o.cell 2;have HO:=η (q7P sd rate r w3 U0 V0);clear hk B x1 J HF HD E N0 o1 Y E0;go_wp2_with fail;refine HO.o.mono ?_;rintro e M ⟨g2,b0,rfl,hk⟩;have HK:=η hk;have x:=η (x.o.ext hk.base);obtain⟨pl,C0⟩: ∃pl,T.length=pl:=⟨_,rfl⟩
  rw[C0] at W0 X0;have C1:((pl:Int)==0)=false:=by simp;omega
  have f1:=η C0;obtain⟨W,cp,m0,D0,z0,hex,S0⟩:=y0B M T;rw[C0] at m0 z0;clear hk HO e0 e1 e2;have l0:=f1.o;obtain⟨k,R0⟩: ∃k:Nat,(k:Int)=(a0*7) % (pl:Int):=⟨((a0*7) % (pl:Int)).toNat,by have:=Int.emod_nonneg (a0*7) (b:=(pl:Int)) (by omega);omega⟩
  have hk:k<pl:=by have:=Int.emod_lt_of_pos (a0*7) (b:=(pl:Int)) (by omega);omega
  obtain⟨v,hu⟩: ∃u,T[k]? =some u:=⟨T[k]'(by omega),γ (by omega)⟩
  have x0:W.drew.cell? ⟨M.heap.size,k,none⟩=some (.int .u8 (v.toNat:Int)):=by
   obtain⟨_,_,e2,hc⟩:=(D0.ext (Ext.refl W).drew) k (q1Q v) (by rw[List.getElem?_map,hu];rfl)
   cases e2;rw[Nat.zero_add] at hc;exact hc
  have y1:W.drew.frozen? ⟨M.heap.size,k,none⟩=false:=z0 k hk;have y0:=y4t v Z w0;have n0:=z0v v Z;generalize v^^^Z=d at y0 n0;have U:=y3B D0 (k:=k) (by rw[List.length_map];omega) (q1Q d);rw[<-List.map_set] at U;have b1:Hd (q2N (T.set k d)=([],10)):=η (i1.o k v _ hu y0);have a1:Hd (q2N (T.take k)=([],10)):=η (j1.o k (by omega));have j0:=x.o.lt;have J:=x.o.ext hex;have g0:W.drew.cell? ⟨w.heap.size+1,0,none⟩=some (.int .u8 a0):=J.cell 0;have g1:W.drew.cell? ⟨w.heap.size+1,1,none⟩=some (.int .u8 (Z.toNat:Int)):=J.cell 1;have q1:IntKind.i64.wrap a0=a0:=by rw[ν];omega
  have q2:IntKind.i64.wrap (a0*7)=a0*7:=by rw[ν];omega
  have q3:Int.tmod (a0*7) (pl:Int)=(k:Int):=by rw[R0];exact Int.tmod_eq_emod_of_nonneg (by omega)
  have q4:IntKind.i64.wrap (k:Int)=(k:Int):=by rw[ν];omega
  have J1:(k:Int)<(pl:Int):=by omega
  have B1:¬pl=0:=by omega
  have i0:=η U;have p1:=η S0;have G0:=η hex;have k0:=J.o (i:=M.heap.size) (by have:=j0;omega) k (q1Q d);have q0:=η k0;have I0:Hd ((T.set k d).length=pl):=η (by rw[List.length_set,l0]);have m1:Hd ((T.take k).length=k):=η (by rw[Θ];omega);clear y0 R0 hu D0 z0 U hex J S0 k0 j0;go_wp2_with fail;refine q3e 13 (by kernel_rfl) (by kernel_rfl) ?_;simp only[List.take_succ_cons,List.take_zero,List.drop_succ_cons,List.drop_zero]
  repeat still_step
  refine wpStill_nil ?_;go_wp2_with fail;have p0:=η fun W' (hE:Ext (W.setCell ⟨M.heap.size,k,none⟩ (q1Q d)) W')=>q2m (P:=Tryz.prog) W' 31 9 5 (n:=pl) (l:=T.set k d) (cap:=cp) Tryz.underlying31 Tryz.underlying5 Tryz.underlying9 I0.o (i0.o.ext hE)
  have P0:q1Q d= .int .u8 (d.toNat:Int):=rfl;rw[P0] at q0 p0;have s1:=q3d T (k:Int) k rfl (by omega);have Q0:((⟨T.toArray⟩:ByteArray)++⟨#[0]⟩)=⟨(T++[0]).toArray⟩:=q2B T [0];have q5:¬(9223372036854775807<T.length+1):=by omega
  have q6:¬(9223372036854775807<pl+1):=by omega
  generalize T.set k d=PS at*;generalize T.take k=TK at*;have n1:Hd ((T++[0]).length<=1000000):=η (by rw[θ,l0];show pl+1<=_;omega);generalize T++[0]=TM at*;have r0:Hd (∀W',Ext (W.setCell ⟨M.heap.size,k,none⟩ (.int .u8 (d.toNat:Int))) W'->(W'.cell? ⟨w.heap.size+1,0,none⟩=some (.int .u8 a0)/\(convert 31 9 (.slice (some ⟨M.heap.size,0,none⟩) pl cp)).run Tryz.prog W'= .ok (.string ⟨PS.toArray⟩) W')):=η fun W' hE=>⟨(q0.o.ext hE).cell 0,p0.o W' hE⟩
  refine q1q (fun W':World=>W'.cell? ⟨w.heap.size+1,0,none⟩=some (.int .u8 a0)/\(convert 31 9 (.slice (some ⟨M.heap.size,0,none⟩) pl cp)).run Tryz.prog W'= .ok (.string ⟨PS.toArray⟩) W') 15 (by kernel_rfl) (r0.o _ (Ext.refl _).drew.drew) (fun j=>?_);refine q0j 0 j (fun j=>?_);refine q5P 1 j (fun j=>?_);refine q0j 2 j (fun j=>?_);refine q0j 3 j (fun j=>?_);refine q5P 4 j (fun j=>?_);refine q0j 5 j (fun j=>?_);refine q0j 6 j (fun j=>?_);refine q0j 7 j (fun j=>?_);refine q0j 8 j (fun j=>?_);refine q0j 9 j (fun j=>?_);refine q0j 10 j (fun j=>?_);refine q0j 11 j (fun j=>?_);refine q0j 12 j (fun j=>?_);refine q0j 13 j (fun j=>?_);simp only[Act.put,π,ψ,ω];refine q0n (i:=14) (by kernel_rfl) rfl (fun K hK=>?_)
  go_simp
  refine hK.out _ _ (r0.o _ ((Ext.refl _).drew.drew.alloc _)) (fun j=>?_);clear hK K
  try simp only[Act.put,π,ψ,ω]
  refine q2K (by kernel_rfl) ?_
  try simp only[List.drop_succ_cons,List.drop_zero]
  clear j;go_wp2_with fail;have Z0:Ext M (((W.setCell ⟨M.heap.size,k,none⟩ (.int .u8 (d.toNat:Int))).alloc (.cells #[.string ⟨PS.toArray⟩,.string ⟨TK.toArray⟩,.string ⟨TM.toArray⟩] 54)).drew.drew):=((Below.setCell G0.o (p:=⟨M.heap.size,k,none⟩) (ι _) _).alloc (by rw[World.size_setCell];exact G0.o.size) _).drew.drew;have v0:=Blk.new (W.setCell ⟨M.heap.size,k,none⟩ (.int .u8 (d.toNat:Int))) 54 #[.string ⟨PS.toArray⟩,.string ⟨TK.toArray⟩,.string ⟨TM.toArray⟩];rw[World.size_setCell] at v0;have R:Blk (((W.setCell ⟨M.heap.size,k,none⟩ (.int .u8 (d.toNat:Int))).alloc (.cells #[.string ⟨PS.toArray⟩,.string ⟨TK.toArray⟩,.string ⟨TM.toArray⟩] 54)).drew.drew) W.heap.size 54 #[.string ⟨PS.toArray⟩,.string ⟨TK.toArray⟩,.string ⟨TM.toArray⟩]:=v0;have M0:=η (HK.o.more (K':=fun i=>i=W.heap.size) Z0 fun i hi=> .inr (by have:=R.lt;have:=p1.o;omega));have F0:=η R;have J0:Hd (PS.length<=1000000):=η (by rw[I0.o];omega);have K0:Hd (TK.length<=1000000):=η (by rw[m1.o];omega);have L0:Hd (TM.length<=1000000):=η (by have:=n1.o;omega);clear Z0 v0 R p0 r0 i0 q0 s1 Q0 x0 y1 n0 P0 g0 g1 q1 q2 q3 q4 q5 q6 m0
  go_loopw [18] (fun i W'=> ∃k':Nat,i= .int .i64 (k':Int)/\k'<=3/\SK w3 W' g2 b0 rate sd 1048576 0 0 0 [] (fun i=>i=W.heap.size)/\Blk W' W.heap.size 54 #[.string ⟨PS.toArray⟩,.string ⟨TK.toArray⟩,.string ⟨TM.toArray⟩]) (fun i _=>3-(intOf i).toNat)
  case atStart=>exact⟨0,rfl,by omega,M0.o,F0.o⟩
  case round=>
   obtain⟨k',rfl,I1,hs,S⟩:=hrel;have HS:=η hs;have o0:=η S;have c0:=S.cell 0;have c1:=S.cell 1;have c2:=S.cell 2;clear hs S M0 F0;have hc:k'=0\/k'=1\/k'=2\/k'=3:=by omega
   rcases hc with rfl|rfl|rfl|rfl
   ·have F:=η (fun W'=>q7G (p:=some ⟨b0,0,none⟩) PS J0.o b1.o W')
    go_wp2_with fail;refine(F.o _).mono ?_;rintro e w6 ⟨rfl,q⟩;have I:=HS.o.grow q;have N:=η (o0.o.ext q);have C:=η (I.all (by omega));clear q I F c0 c1 c2;go_wp2_with fail;refine C.o.mono ?_;rintro e w7 ⟨v,rfl,h1,h2,h3,h4⟩;have G:w7.ownsRow w3.heap.size 68 5 v 0 (q5Q []):=h3;obtain⟨va,vc,rfl⟩:=q0G G;have Q:=η (h1.beside (K':=fun i=>i=W.heap.size) fun i hi=> .inl hi);have O:=η (N.o.same (h2 W.heap.size rfl));clear h1 h2 h3 G h4 C;go_wp2_with fail
    go_roundw
    case rel=>exact⟨1,rfl,by omega,Q.o,O.o⟩
    case measure=>decide
   ·have F:=η (fun W'=>q7G (p:=some ⟨b0,0,none⟩) TK K0.o a1.o W')
    go_wp2_with fail;refine(F.o _).mono ?_;rintro e w6 ⟨rfl,q⟩;have I:=HS.o.grow q;have N:=η (o0.o.ext q);have C:=η (I.all (by omega));clear q I F c0 c1 c2;go_wp2_with fail;refine C.o.mono ?_;rintro e w7 ⟨v,rfl,h1,h2,h3,h4⟩;have G:w7.ownsRow w3.heap.size 68 5 v 0 (q5Q []):=h3;obtain⟨va,vc,rfl⟩:=q0G G;have Q:=η (h1.beside (K':=fun i=>i=W.heap.size) fun i hi=> .inl hi);have O:=η (N.o.same (h2 W.heap.size rfl));clear h1 h2 h3 G h4 C;go_wp2_with fail
    go_roundw
    case rel=>exact⟨2,rfl,by omega,Q.o,O.o⟩
    case measure=>decide
   ·have F:=η (fun W'=>q7G (p:=some ⟨b0,0,none⟩) TM L0.o l1.o W')
    go_wp2_with fail;refine(F.o _).mono ?_;rintro e w6 ⟨rfl,q⟩;have I:=HS.o.grow q;have N:=η (o0.o.ext q);have C:=η (I.all (by omega));clear q I F c0 c1 c2;go_wp2_with fail;refine C.o.mono ?_;rintro e w7 ⟨v,rfl,h1,h2,h3,h4⟩;have G:w7.ownsRow w3.heap.size 68 5 v 0 (q5Q []):=h3;obtain⟨va,vc,rfl⟩:=q0G G;have Q:=η (h1.beside (K':=fun i=>i=W.heap.size) fun i hi=> .inl hi);have O:=η (N.o.same (h2 W.heap.size rfl));clear h1 h2 h3 G h4 C;go_wp2_with fail
    go_roundw
    case rel=>exact⟨3,rfl,by omega,Q.o,O.o⟩
    case measure=>decide
   ·have u1:=η (r1.o.trans HS.o.base)
    clear c0 c1 c2;go_wp2_with fail;refine(HQ.o _).mono ?_;rintro e w6 ⟨rfl,q⟩;have v1:=η (u1.o.trans q);clear q;go_wp2_with fail;go_ret;exact⟨rfl,v1.o⟩
end
end Go.Proofs.YteabhdclmodefaaGreatDoor
