/- Walks. -/
import Derived.LaidEql
import Derived.Stop.Asserts
import Derived.RowKitTokens
import Derived.Test.YtjlcdfpbllobaaaGreatDoorG36AQ
set_option linter.unusedVariables false
set_option linter.unusedSimpArgs false
set_option maxRecDepth 100000
set_option maxHeartbeats 12800000
namespace Go.Proofs.YtjlcdfpbllobaaaGreatDoor
variable {L:List Ev}{i m cap:Nat}{bs':List Bt}{ao:Option Addr}
section
open Go.RowKit Go.Extern.Stop Go.Stop Go.Extern
end
section
open Go.RowKit
section
variable {wb w W W':World}{g gs gw rate u n:Nat}{sd c s:Int}{bs:List Bt}{K K':Nat->Prop}
end
theorem z0p(sd:Int)(rate:Nat)(b:Int)(w:World)(x:0<=sd)(y:sd<18446744073709551616):
  Calls Tryz.prog 16 #[.agg #[.int .u64 sd,.float .f64 rate,.int .u16 b]] w fun e w'=> ∃g gs,e= .returned (.tuple #[.pointer (some ⟨g,0,none⟩),.pointer (some ⟨gs,0,none⟩),.bool true])/\SK w w' g gs rate sd 1048576 0 0 0 [] noI:=by
 have l:=q0B w (.cells #[.int .u64 sd,.float .f64 rate,.int .u16 b] 50);have j:=Blk.new w 50 #[.int .u64 sd,.float .f64 rate,.int .u16 b];have q:=η j;have r:=η l;have I:=η (fun W=>DkK.new24 W 1048576 (by decide) (by decide));clear l j;go_enter Tryz.func16,Tryz.ntmps16;go_wp2_with fail;refine(I.o _).mono ?_;rintro e w1 ⟨g,rfl,v⟩;have F:=DkK.base v;have d:=q.o.ext F;have k0:=d.cell 0;have k1:=d.cell 1;have C:=η ((DkK.sq (v.rebase r.o) sd x y).open (by omega) rate);clear v F d;go_wp2_with fail;refine C.o.mono ?_;rintro e J ⟨gs,rfl,E,B⟩;have G:=η E;clear E B C k0 k1;go_wp2_with fail;go_ret3;exact⟨g,gs,rfl,G.o⟩
section
variable {wb w W W':World}{g gs gw rate u n:Nat}{sd c s:Int}{bs:List Bt}{K K':Nat->Prop}
end
section
variable {wb w W W':World}{g gs gw rate u n:Nat}{sd c s:Int}{bs:List Bt}{K K':Nat->Prop}
end
def apN(bs:List Bt)(str:List UInt8)(L:List Ev):Int×Int:=if z6b bs str (-2) L=0 then(((q0U bs str).length:Int),0) else(0,z6b bs str (-2) L)
def apB(bs:List Bt)(str:List UInt8)(L:List Ev):List Bt:=if z6b bs str (-2) L=0 then bs++[⟨str,(q0U bs str).length,L⟩] else bs
theorem z1X(bs:List Bt)(b:Bt)(str:List UInt8):(q0U bs str).length<=(q0U (bs++[b]) str).length:=by
 rw[q3P,θ];omega
theorem y4U(bs:List Bt)(str:List UInt8)(L:List Ev)(st:List UInt8):(q0U bs st).length<=(q0U (apB bs str L) st).length:=by
 unfold apB;split
 ·exact z1X _ _ _
 ·exact ι _
theorem y2d(bs:List Bt)(str:List UInt8)(L:List Ev):(apB bs str L).length<=bs.length+1:=by
 unfold apB;split<;>simp
theorem y5l{bs:List Bt}(h:okBs bs){str:List UInt8}{a:Int}(j:bs.length<=1000)(d: ∀e∈L,e.we<18446744073709551616):okBs (wrB bs str a L):=by
 unfold wrB;by_cases b:z6b bs str a L=0
 ·rw [ξ b]
  have hc:q0S str 0 L=0:=by
   unfold z6b at b;by_cases hc:q0S str 0 L=0
   ·exact hc
   ·rw[ξ hc] at b;exact absurd b hc
  have h1:=q4f bs str;have h2:=z2G h;exact okBs_snoc.2 ⟨h,⟨q5G (n:=(q0U bs str).length) hc (by omega),d⟩,rfl⟩
 ·rw[κ b];exact h
theorem y4V{bs:List Bt}(h:okBs bs){str:List UInt8}(d:bs.length<=1000)(b: ∀e∈L,e.we<18446744073709551616):okBs (apB bs str L):=y5l (a:= -2) h d b
def InW(P:Bool->Option (Nat×Int))(i:Nat):Prop:= ∃k s,P k=some (i,s)
structure TW(wb W:World)(g gs rate:Nat)(sd c:Int)(u n:Nat)(bs:List Bt)(mb:Nat)(vL vM:Value)(k:Nat)(bs2:List Bt)(str:List UInt8)(P D:Bool->Option (Nat×Int))(X:Nat->Prop):Prop where
 sk:SK wb W g gs rate sd c 0 u n bs (fun i=>MoB mb vL vM i\/InW P i\/InW D i\/X i)
 mo: ∃ms,MoI W mb wb.heap.size vL vM (tos bs2) ms/\ms.length<=k
 ok2:okBs bs2
 few2:bs2.length<=k
 lowM: ∀i,MoB mb vL vM i->wb.heap.size<=i/\¬X i
 pI: ∀j x s,P j=some (x,s)->WrI W x gs str s/\ -1<=s/\s<((q0U bs str).length:Int)
 dI: ∀j x s,D j=some (x,s)->RwI W x mb str s/\ -1<=s/\s<((q0U bs2 str).length:Int)
 pA: ∀j x s,P j=some (x,s)->¬MoB mb vL vM x/\¬X x/\¬InW D x/\(∀s',P (!j)≠some (x,s'))/\wb.heap.size<=x
 dA: ∀j x s,D j=some (x,s)->¬MoB mb vL vM x/\¬X x/\(∀s',D (!j)≠some (x,s'))/\wb.heap.size<=x
section
variable {wb w W W':World}{g gs mb rate u n k:Nat}{sd c:Int}{bs bs2:List Bt}{vL vM:Value}{str:List UInt8}{P D:Bool->Option (Nat×Int)}{X X':Nat->Prop}
theorem TW.lt(h:TW wb W g gs rate sd c u n bs mb vL vM k bs2 str P D X)(b:MoB mb vL vM i\/InW P i\/InW D i\/X i):i<W.heap.size:=h.sk.klt i b
theorem TW.grow(h:TW wb W g gs rate sd c u n bs mb vL vM k bs2 str P D X)(e:Ext W W'):TW wb W' g gs rate sd c u n bs mb vL vM k bs2 str P D X:=by
 obtain⟨l,hm,d⟩:=h.mo;exact⟨h.sk.grow e,⟨l,hm.ext e,d⟩,h.ok2,h.few2,h.lowM,fun j x s b=>⟨Blk.ext (h.pI j x s b).1 e,(h.pI j x s b).2⟩,fun j x s b=>⟨Blk.ext (h.dI j x s b).1 e,(h.dI j x s b).2⟩,h.pA,h.dA⟩
theorem TW.more(h:TW wb W g gs rate sd c u n bs mb vL vM k bs2 str P D X)(e:Ext W W')(y: ∀i,X' i->X i\/(W.heap.size<=i/\i<W'.heap.size)):TW wb W' g gs rate sd c u n bs mb vL vM k bs2 str P D X':=by
 have d:=h.grow e;have r: ∀i,(MoB mb vL vM i\/InW P i\/InW D i)->¬X i->¬X' i:=fun i b B v=>by
  have:i<W.heap.size:=h.lt (by rcases b with h|h|h;exact .inl h;exact .inr (.inl h);exact .inr (.inr (.inl h)));rcases y i v with h|h
  ·exact B h
  ·omega
 refine⟨h.sk.more e fun i b=>?_,d.mo,d.ok2,d.few2,fun i b=>⟨(h.lowM i b).1,r i (.inl b) (h.lowM i b).2⟩,d.pI,d.dI,fun j x s l=>?_,fun j x s l=>?_⟩
 ·rcases b with b|b|b|b
  ·exact .inl (.inl b)
  ·exact .inl (.inr (.inl b))
  ·exact .inl (.inr (.inr (.inl b)))
  ·exact(y i b).imp (fun h=> .inr (.inr (.inr h))) id
 ·obtain⟨a1,o,q⟩:=h.pA j x s l
  exact⟨a1,r x (.inr (.inl ⟨j,s,l⟩)) o,q⟩
 ·obtain⟨a1,o,q⟩:=h.dA j x s l
  exact⟨a1,r x (.inr (.inr ⟨j,s,l⟩)) o,q⟩
theorem TW.modelled(h:TW wb w g gs rate sd c u n bs mb vL vM k bs2 str P D X){F:Nat->Prop}{o q:Value}{y:List Value}(hm:MoI W mb wb.heap.size o q (tos bs') y)(hl:y.length<=k+1)(Q:okBs bs')(C:bs'.length<=k+1)
  (G:w.heap.size<=W.heap.size)(l:Ios w W)(S: ∀i,i<w.heap.size->¬MoB mb vL vM i->¬F i->W.heap[i]? =w.heap[i]?)(M: ∀i,MoB mb o q i->MoB mb vL vM i\/w.heap.size<=i)(he:(q0U bs2 str).length<=(q0U bs' str).length)
  {D':Bool->Option (Nat×Int)}(hF: ∀i,F i->InW D i)(R: ∀i,InW D' i->InW D i)(O: ∀j x s,D' j=some (x,s)->RwI W x mb str s/\ -1<=s/\s<((q0U bs' str).length:Int))(B: ∀j x s,D' j=some (x,s)-> ∃J,D j=some (x,J)):
  TW wb W g gs rate sd c u n bs mb o q (k+1) bs' str P D' X/\Stay X w W:=by
 have N: ∀i,F i->wb.heap.size<=i:=fun i b=>by obtain⟨j,s,d⟩:=hF i b;exact(h.dA j i s d).2.2.2
 have v: ∀i,i<w.heap.size->¬MoB mb vL vM i->¬InW D i->W.heap[i]? =w.heap[i]? :=fun i h1 h2 h3=>S i h1 h2 fun Z=>h3 (hF i Z)
 have hx:Ext wb W:=Below.trans h.sk.base ⟨l.1,l.2.1,l.2.2,G,fun i b=>S i (Ψ b h.sk.base.size) (fun e=>by have:=(h.lowM i e).1;omega) fun e=>by have:=N i e;omega⟩;have r: ∀i,(InW P i\/InW D i\/X i)->¬MoB mb vL vM i->¬MoB mb o q i:=fun i b I Y=>by
  have:i<w.heap.size:=h.lt (.inr b);rcases M i Y with h1|h1
  ·exact I h1
  ·omega
 refine⟨⟨h.sk.sideM G hx (fun i b I=>v i b (fun e=>I (.inl e)) fun e=>I (.inr (.inr (.inl e)))) fun i b=>?_,⟨y,hm,hl⟩,Q,C,fun i b=>?_,fun j x s d=>?_,O,fun j x s d=>?_,fun j x s d=>?_⟩,fun i b=>?_⟩
 ·rcases b with b|b|b|b
  ·rcases M i b with h1|h1
   ·exact .inl (.inl h1)
   ·exact .inr ⟨h1,hm.lt b⟩
  ·exact .inl (.inr (.inl b))
  ·exact .inl (.inr (.inr (.inl (R i b))))
  ·exact .inl (.inr (.inr (.inr b)))
 ·rcases M i b with h1|h1
  ·exact h.lowM i h1
  ·exact⟨Ω h.sk.base.size h1,fun V=>by have:=h.lt (.inr (.inr (.inr V)));omega⟩
 ·obtain⟨a1,U⟩:=h.pI j x s d
  obtain⟨b1,b2,b3,b4⟩:=h.pA j x s d;exact⟨Blk.same a1 (v x (h.lt (.inr (.inl ⟨j,s,d⟩))) b1 b3),U⟩
 ·obtain⟨b1,b2,b3,b4⟩:=h.pA j x s d
  exact⟨r x (.inl ⟨j,s,d⟩) b1,b2,fun e=>b3 (R x e),b4⟩
 ·obtain⟨J,E⟩:=B j x s d
  obtain⟨b1,b2,b3,b4⟩:=h.dA j x J E;exact⟨r x (.inr (.inl ⟨j,J,E⟩)) b1,b2,fun s2 e=>(by obtain⟨s3,h3⟩:=B _ _ _ e;exact b3 s3 h3),b4⟩
 ·exact v i (h.lt (.inr (.inr (.inr b)))) (fun e=>(h.lowM i e).2 b) fun ⟨j,s,d⟩=>(h.dA j i s d).2.1 b
theorem TW.bd2(h:TW wb w g gs rate sd c u n bs mb vL vM k bs2 str P D X)(b:k<=1000):(tos bs2).length<=8000:=by
 have h1:=z2G h.ok2;have h2:=h.few2;omega
theorem y4d(l: ∀W,Ext wb W->Evs W ao m cap L): ∀a,ao=some a->0<m->a.block<wb.heap.size:=fun a e hm=>by
 obtain⟨b,off,d,j,_⟩:=(l wb (Ext.refl _)).at (i:=0) hm;rw[e] at d;cases d;exact World.block_lt_of_cell? _ _ j
theorem TW.app2(h:TW wb w g gs rate sd c u n bs mb vL vM k bs2 str P D X)(Q:k<=1000)(R:str.length<=4611686018427387903)(B: ∀W,Ext wb W->Evs W ao m cap L)(M:q2U L)(l: ∀e∈L,e.we<18446744073709551616):
  Calls Tryz.prog 20 #[.pointer (some ⟨mb,0,none⟩),.string ⟨str.toArray⟩,.int .i64 (-2),.slice ao m cap] w fun e w'=>e= .returned (.tuple #[.int .i64 (apN bs2 str L).1,.int .i64 (apN bs2 str L).2])/\Stay X w w'/\
   ∃o q,TW wb w' g gs rate sd c u n bs mb o q (k+1) (apB bs2 str L) str P D X:=by
 obtain⟨Z,hm,Y⟩:=h.mo;have V:=h.bd2 Q;have v:=h.few2;refine(z7D hm h.ok2 (h.lowM mb (.inl rfl)).1 str R (-2) (B w h.sk.base) (fun a e E N=>by have:=y4d B a e E;have:=(h.lowM _ N).1;omega) M l (by omega) (by omega) rfl).mono ?_;rintro e w' ⟨o,q,S,bs',x,y,rfl,h1,h2,h3,h4,G,I,J⟩;have O:x=(apN bs2 str L).1/\y=(apN bs2 str L).2/\bs'=apB bs2 str L:=by
  unfold apN apB;rcases I with⟨h3,rfl,rfl,rfl⟩|⟨h3,rfl,rfl,rfl⟩
  ·rw[κ h3,κ h3];exact⟨rfl,rfl,rfl⟩
  ·rw[ξ h3,ξ h3];exact⟨rfl,rfl,rfl⟩
 obtain⟨rfl,rfl,rfl⟩:=O;have he:=y4U bs2 str L str;have:=h.modelled (F:=fun _=>False) (D':=D) h1 (by omega) (y4V h.ok2 (by omega) l) (Ω (y2d _ _ _) (by omega)) h3 J (fun i a b _=>h4 i a b) G he (fun i r=>r.elim) (fun i r=>r) (fun j x s d=>?_) (fun j x s d=>⟨s,d⟩)
 ·exact⟨rfl,this.2,_,_,this.1⟩
 ·obtain⟨a1,C,U⟩:=h.dI j x s d
  exact⟨Blk.same a1 (h4 x (h.lt (.inr (.inr (.inl ⟨j,s,d⟩)))) (h.dA j x s d).1),C,by omega⟩
end
theorem q4s{b W:World}{q j:Nat}{v:Option Value}(h:b.heap.size=q)(k:W.cell? ⟨q,j,none⟩=v):W.cell? ⟨b.heap.size,j,none⟩=v:=h▸k
abbrev noP :Bool->Option (Nat×Int):=fun _=>none
theorem y2N:¬InW noP i:=fun ⟨_,_,h⟩=>by cases h
section
variable {wb w W W':World}{g gs gs' mb rate u n k:Nat}{sd c:Int}{bs bs2:List Bt}{vL vM:Value}{str str':List UInt8}{X X':Nat->Prop}
theorem TW.any(h:TW wb W g gs rate sd c u n bs mb vL vM k bs2 str noP noP X)(str':List UInt8):TW wb W g gs rate sd c u n bs mb vL vM k bs2 str' noP noP X:=
 ⟨h.sk,h.mo,h.ok2,h.few2,h.lowM,fun j x s b=>(by cases b),fun j x s b=>(by cases b),fun j x s b=>(by cases b),fun j x s b=>(by cases b)⟩
theorem TW.stored0(h:TW wb w g gs rate sd c u n bs mb vL vM k bs2 str noP noP X){u' o:Nat}(q:SK wb W g gs' rate sd c 0 u' o bs' (fun i=>MoB mb vL vM i\/InW noP i\/InW noP i\/X i))(l:Stay (fun i=>MoB mb vL vM i\/InW noP i\/InW noP i\/X i) w W):
  TW wb W g gs' rate sd c u' o bs' mb vL vM k bs2 str noP noP X/\Stay X w W:=by
 obtain⟨v,hm,r⟩:=h.mo;exact⟨⟨q,⟨v,hm.same fun i d=>l i (.inl d),r⟩,h.ok2,h.few2,h.lowM,fun j x s b=>(by cases b),fun j x s b=>(by cases b),fun j x s b=>(by cases b),fun j x s b=>(by cases b)⟩,fun i d=>l i (.inr (.inr (.inr d)))⟩
theorem TW.up(h:TW wb W g gs rate sd c u n bs mb vL vM k bs2 str noP noP X){k':Nat}(d:k<=k'):TW wb W g gs rate sd c u n bs mb vL vM k' bs2 str noP noP X:=by
 obtain⟨b,hm,j⟩:=h.mo;exact⟨h.sk,⟨b,hm,by omega⟩,h.ok2,by have:=h.few2;omega,h.lowM,h.pI,h.dI,h.pA,h.dA⟩
theorem TW.app1s(h:TW wb w g gs rate sd c u n bs mb vL vM k bs2 str noP noP X)(q:n<=86)(b:(u:Int)+8024<=c)(r:str.length<=4611686018427387903)(v: ∀W,Ext wb W->Stay X w W->Evs W ao m cap L)(j:q2U L)(d: ∀e∈L,e.we<18446744073709551616):
  Calls Tryz.prog 19 #[.pointer (some ⟨gs,0,none⟩),.string ⟨str.toArray⟩,.int .i64 (-2),.slice ao m cap] w fun e w'=>e= .returned (.tuple #[.int .i64 (apN bs str L).1,.int .i64 (apN bs str L).2])/\TW wb w' g gs rate sd c (u+2024) (n+1) (apB bs str L) mb vL vM k bs2 str noP noP X/\Stay X w w':=by
 refine(h.sk.append q str r (-2) (fun W C E=>v W C fun i o=>E i (.inr (.inr (.inr o)))) j d rfl).mono ?_;rintro e w' ⟨x,y,bs',rfl,k1,B,h3⟩;have l:x=(apN bs str L).1/\y=(apN bs str L).2/\bs'=apB bs str L:=by
  unfold apN apB;rcases h3 with⟨h3,rfl,rfl,rfl⟩|⟨_,_,_,_,h3⟩|⟨h3,rfl,rfl,rfl⟩
  ·rw[κ h3,κ h3];exact⟨rfl,rfl,rfl⟩
  ·omega
  ·rw[ξ h3,ξ h3];exact⟨rfl,rfl,rfl⟩
 obtain⟨rfl,rfl,rfl⟩:=l;exact⟨rfl,h.stored0 k1 B⟩
theorem TW.first{w1 l:World}(h:SK w1 l g gs rate sd 1048576 0 0 0 [] noI):
  TW w1 (l.alloc (.cells #[.slice none 0 0,.slice none 0 0,.int .i64 0] 59)) g gs rate sd 1048576 0 0 [] l.heap.size (.slice none 0 0) (.slice none 0 0) 0 [] [] noP noP (fun _=>False):=by
 have q:=q0B l (.cells #[.slice none 0 0,.slice none 0 0,.int .i64 0] 59);have o: ∀i,MoB l.heap.size (.slice none 0 0) (.slice none 0 0) i->i=l.heap.size:=fun i b=>by
  rcases b with b|b|b
  ·exact b
  ·cases b
  ·cases b
 have b1:=Blk.new l 59 #[.slice none 0 0,.slice none 0 0,.int .i64 0];refine⟨h.more q fun i b=>?_,⟨[],⟨⟨0,b1⟩,⟨rfl,.inl ⟨rfl,rfl⟩⟩,⟨rfl,.inl ⟨rfl,rfl⟩⟩⟩,ι _⟩,okBs.nil,ι _,fun i b=>⟨by rw[o i b];exact h.base.size,fun e=>e⟩,fun j x s d=>(by cases d),fun j x s d=>(by cases d),fun j x s d=>(by cases d),fun j x s d=>(by cases d)⟩;refine .inr ?_;simp only[ρ];rcases b with b|b|b|b
 ·rw[o i b];omega
 ·exact absurd b y2N
 ·exact absurd b y2N
 ·exact b.elim
end
def FMo(wb w:World)(g gs rate:Nat)(sd:Int)(u n:Nat)(bs:List Bt)(mb:Nat)(vL vM:Value):Prop:=TW wb w g gs rate sd 1048576 u n bs mb vL vM n bs [] noP noP (fun _=>False)
theorem y0z{n:Nat}{A:List Acm}(sd:Int)(rate:Nat)(l:Int)(w:World)(hx:Acs w ao n cap A)(b1:0<=sd)(f1:sd<18446744073709551616)(i1:n<=40)(I0: ∀x∈A,x.st.length<=300/\x.n<=20/\ ∀e∈x.L,e.ty.length<=300/\e.da.length<=300):
  Calls Tryz.prog 26 #[.slice ao n cap,.agg #[.int .u64 sd,.float .f64 rate,.int .u16 l]] w fun e w'=> ∃g gs mb u m bs vL vM,e= .returned (.tuple #[.pointer (some ⟨g,0,none⟩),.pointer (some ⟨gs,0,none⟩),.pointer (some ⟨mb,0,none⟩),.bool true])/\FMo (w.alloc (.cells #[.int .u64 sd,.float .f64 rate,.int .u16 l] 50)) w' g gs rate sd u m bs mb vL vM/\u<=800000/\m<=40:=by
 have N0:=q0B w (.cells #[.int .u64 sd,.float .f64 rate,.int .u16 l] 50);have F0:=Blk.new w 50 #[.int .u64 sd,.float .f64 rate,.int .u16 l];have m0:=η F0;have Z:=η (hx.ext N0);have g1:=hx.len;have l1:=hx.fits;have m1:=hx.bound;have y0:=η I0;have HO:=η (z0p sd rate l (w.alloc (.cells #[.int .u64 sd,.float .f64 rate,.int .u16 l] 50)) b1 f1);clear hx N0 F0 I0;go_enter Tryz.func26,Tryz.ntmps26;obtain⟨w1,v0⟩: ∃w1,w.alloc (.cells #[.int .u64 sd,.float .f64 rate,.int .u16 l] 50)=w1:=⟨_,rfl⟩
 rw[v0] at m0 Z HO;obtain⟨q0,u0⟩: ∃q0,w.heap.size=q0:=⟨_,rfl⟩
 have A0:=η v0;have f0:=η u0;rw[u0] at m0;clear v0 u0;go_wp2_with fail;rw[A0.o];refine HO.o.mono ?_;rintro e w2 ⟨g,gs,rfl,hk⟩;have HF:=η (TW.first hk);clear hk HO;go_wp2_with fail
 go_loopw [9,10,12] (fun os ok oi W=> ∃(gs j u m:Nat) (bs:List Bt) (vL vM:Value),os= .pointer (some ⟨gs,0,none⟩)/\ok= .bool true/\oi= .int .i64 (j:Int)/\j<=n/\u<=20000*j/\m<=j/\TW w1 W g gs rate sd 1048576 u m bs w2.heap.size vL vM m bs [] noP noP (fun _=>False)) (fun _ _ i _=>n-(intOf i).toNat)
 case atStart=>exact⟨gs,0,0,0,[],_,_,rfl,rfl,rfl,υ _,ι _,ι _,HF.o⟩
 case round=>
  obtain⟨gs,j,u,m,bs,vL,vM,rfl,rfl,rfl,hj,hu,hm,M0⟩:=hrel;have Q:=η M0;have r0:=η hu;have Z0:m<=40:=by omega
  have Q0:=η hm;clear M0 hu hm HF;by_cases t0:j<n
  ·have hd:decide ((j:Int)<(n:Int))=true:=ζ (by omega)
   have o1:(j:Int)<(n:Int):=by omega
   have q8:IntKind.i64.wrap ((j:Int)+1)=(j:Int)+1:=by rw[ν];omega
   obtain⟨b0,off,rfl,c0,c1,c2,c3,c4,G0,J0⟩:=(Z.o.ext Q.o.sk.base).at t0;have Y:=y0.o (A.getD j ac0) (q4G (by omega));have U: ∀W,Ext w1 W->Evs W (A.getD j ac0).ao (A.getD j ac0).n (A.getD j ac0).cap (A.getD j ac0).L:=fun W kk=>by
    obtain⟨_,_,_,_,_,_,_,_,O,_⟩:=(Z.o.ext kk).at t0;exact O
   generalize A.getD j ac0=x at*;obtain⟨kd,st,xa,xb,R,en,G,L⟩:=x;simp only at c0 c1 c2 c3 c4 G0 Y U;have x0:=η U;have B0:Hd (∀e∈L,e.we<18446744073709551616):=η fun e he=>(J0.e e he).2.2
   have z0:Hd (q2U L):=η (z6Q Y.2.2);have n1:en<=20:=Y.2.1;have j1:st.length<=300:=Y.1;clear U G0 J0 Y;obtain⟨q,hq⟩: ∃q,wr.heap.size=q:=⟨_,rfl⟩
   have O0:=q0B wr (.cells #[.int .u8 kd,.string ⟨st.toArray⟩,.int .i64 xa,.int .i64 xb,.slice R en G] 66);have s0:=Blk.new wr 66 #[.int .u8 kd,.string ⟨st.toArray⟩,.int .i64 xa,.int .i64 xb,.slice R en G];have a1:w1.heap.size<=q:=by rw[<-hq];exact Q.o.sk.base.size
   rw[hq] at s0;have o0:=η s0;obtain⟨X,hX⟩: ∃X:Nat->Prop,(fun i=>i=q)=X:=⟨_,rfl⟩
   have D0:X q:=by rw[<-hX]
   have U0:=η D0;have T0:Hd (∀i,X i->i=q):=η fun i r=>by rw[<-hX] at r;exact r
   have d:=η ((Q.o.more (X':=X) O0 fun i r=> .inr (by have:=T0.o i r;rw[ρ];omega)).any st);have l0:Hd (∀W,Ext w1 W->Blk W q0 50 #[.int .u64 sd,.float .f64 rate,.int .u16 l]):=η fun W kk=>m0.o.ext kk
   have J:Hd (∀(W:World) (gs' u' m':Nat) (bs':List Bt) (i0 j0:Value),u'<=u+20000->m'<=m+1->TW w1 W g gs' rate sd 1048576 u' m' bs' w2.heap.size i0 j0 m' bs' st noP noP X->
     j+1<=n/\u'<=20000*(j+1)/\m'<=j+1/\TW w1 W g gs' rate sd 1048576 u' m' bs' w2.heap.size i0 j0 m' bs' [] noP noP (fun _=>False)):=
    η fun W gs' u' m' bs' i0 j0 h1 h2 h3=>⟨by omega,by have:=r0.o;omega,by have:=Q0.o;omega,(h3.more (Ext.refl _) fun i r=>r.elim).any []⟩
   have HQ:=η hq;obtain⟨E,p1⟩: ∃E,kd.tmod 14=E:=⟨_,rfl⟩
   clear O0 s0 hq hX D0 Q a1;by_cases h8:E=8
   ·have d8:(E==(8:Int))=true:=by rw[h8];rfl
    clear h8;have F:=η d.o.sk.flush;go_wp2_with fail;refine F.o.mono ?_;rintro e w3 ⟨rfl,h1,h2⟩;have M:=η (d.o.stored0 (h1.mono (ι _) (ι _)) h2).1;clear h1 h2 F;go_wp2_with fail
    go_roundw
    case rel=>exact(fun h=>⟨_,j+1,_,_,_,_,_,rfl,rfl,by go_num,h.1,h.2.1,h.2.2.1,h.2.2.2⟩) (J.o _ _ _ _ _ _ _ (by omega) (by omega) M.o)
    case measure=>simp[intOf];omega
   have d8:(E==(8:Int))=false:=by simpa using h8
   by_cases O:E=9
   ·have d9:(E==(9:Int))=true:=by rw[O];rfl
    clear h8 O;have F:=η (d.o.sk.index (by omega));go_wp2_with fail;refine F.o.mono ?_;rintro e w3 ⟨y,rfl,_,h1,h2⟩;have M:=η ((d.o.stored0 h1 h2).1.up (k':=m+1) (by omega));clear h1 h2 F;go_wp2_with fail
    go_roundw
    case rel=>exact(fun h=>⟨_,j+1,_,_,_,_,_,rfl,rfl,by go_num,h.1,h.2.1,h.2.2.1,h.2.2.2⟩) (J.o _ _ _ _ _ _ _ (by omega) (by omega) M.o)
    case measure=>simp[intOf];omega
   have d9:(E==(9:Int))=false:=by simpa using O
   by_cases B:E=10
   ·have V0:(E==(10:Int))=true:=by rw[B];rfl
    clear h8 O B;have F:=η (fun v=>d.o.sk.merge (by omega) v);go_wp2_with fail;refine(F.o _).mono ?_;rintro e w3 ⟨y,rfl,_,h1,h2⟩;have M:=η ((d.o.stored0 h1 h2).1.up (k':=m+1) (by omega));clear h1 h2 F;go_wp2_with fail
    go_roundw
    case rel=>exact(fun h=>⟨_,j+1,_,_,_,_,_,rfl,rfl,by go_num,h.1,h.2.1,h.2.2.1,h.2.2.2⟩) (J.o _ _ _ _ _ _ _ (by omega) (by omega) M.o)
    case measure=>simp[intOf];omega
   have V0:(E==(10:Int))=false:=by simpa using B
   by_cases N:E=11
   ·have W0:(E==(11:Int))=true:=by rw[N];rfl
    clear h8 O B N;have F:=η (fun v=>d.o.sk.merge (by omega) v);go_wp2_with fail;refine(F.o _).mono ?_;rintro e w3 ⟨y,rfl,_,h1,h2⟩;have M:=η ((d.o.stored0 h1 h2).1.up (k':=m+1) (by omega));clear h1 h2 F;go_wp2_with fail
    go_roundw
    case rel=>exact(fun h=>⟨_,j+1,_,_,_,_,_,rfl,rfl,by go_num,h.1,h.2.1,h.2.2.1,h.2.2.2⟩) (J.o _ _ _ _ _ _ _ (by omega) (by omega) M.o)
    case measure=>simp[intOf];omega
   have W0:(E==(11:Int))=false:=by simpa using N
   by_cases S:E=12
   ·have X0:(E==(12:Int))=true:=by rw[S];rfl
    clear h8 O B N S;have F:=η (d.o.sk.disk.open (by omega) rate);have hh:=l0.o _ d.o.sk.base;have k0:=q4s f0.o (hh.cell 0);have k1:=q4s f0.o (hh.cell 1);clear hh;go_wp2_with fail;refine F.o.mono ?_;rintro e w3 ⟨gs',rfl,h1,h2⟩;have M:=η (d.o.stored0 h1 h2).1;clear h1 h2 F k0 k1;go_wp2_with fail
    go_roundw
    case rel=>exact(fun h=>⟨_,j+1,_,_,_,_,_,rfl,rfl,by go_num,h.1,h.2.1,h.2.2.1,h.2.2.2⟩) (J.o _ _ _ _ _ _ _ (by omega) (by omega) M.o)
    case measure=>simp[intOf];omega
   have X0:(E==(12:Int))=false:=by simpa using S
   by_cases g0:E=13
   ·have Y0:(E==(13:Int))=true:=by rw[g0];rfl
    clear h8 O B N S g0;have F:=η (d.o.sk.disk.open (by omega) rate);have hh:=l0.o _ d.o.sk.base;have k0:=q4s f0.o (hh.cell 0);have k1:=q4s f0.o (hh.cell 1);clear hh;go_wp2_with fail;refine F.o.mono ?_;rintro e w3 ⟨gs',rfl,h1,h2⟩;have M:=η (d.o.stored0 h1 h2).1;clear h1 h2 F k0 k1;go_wp2_with fail
    go_roundw
    case rel=>exact(fun h=>⟨_,j+1,_,_,_,_,_,rfl,rfl,by go_num,h.1,h.2.1,h.2.2.1,h.2.2.2⟩) (J.o _ _ _ _ _ _ _ (by omega) (by omega) M.o)
    case measure=>simp[intOf];omega
   have Y0:(E==(13:Int))=false:=by simpa using g0
   clear h8 O B N S g0;have e1:=q4s HQ.o (o0.o.cell 1);have e4:=q4s HQ.o (o0.o.cell 4);go_wp2_with fail;have d1:=q0A (Ext.refl _).drew e1;have d4:=q0A (Ext.refl _).drew e4;have p0:=η (d.o.grow (Ext.refl _).drew);refine q1o (fun W:World=>W.cell? ⟨wr.heap.size,1,none⟩=some (.string ⟨st.toArray⟩)/\W.cell? ⟨wr.heap.size,4,none⟩=some (.slice R en G)) 10 (by kernel_rfl) ⟨d1,d4⟩ (fun b=>?_);refine q0j 0 b (fun b=>?_);refine q0j 1 b (fun b=>?_);refine q5C 2 b (fun b=>?_);refine q0j 3 b (fun b=>?_);refine q5C 4 b (fun b=>?_);simp only[Act.put,π,ψ,ω];refine q0k (i:=5) (by kernel_rfl) rfl (fun K hK=>?_);have I:=x0.o _ p0.o.sk.base;refine q1I rfl (.const (.slice none 0 0)) (.tmp 49) 64 rfl w1.heap.size 97 _ 3 40 Tryz.underlying64 Tryz.infoEv (by decide) (by decide) (.slice none 0 0) 0 [] rfl ⟨rfl,.inl ⟨rfl,rfl⟩⟩ R en G (q7l L) rfl (by rw[q6F,I.len]) I.nil I.rd (z5Y _) (by unfold maxLen;omega) (by omega) p0.o.sk.base.size ?_;intro v2 w8 C V E0;rw[Nat.zero_add] at C;rw[List.nil_append] at C;obtain⟨oa,oc,rfl⟩:=q0E C;have w0:Ext (wr.alloc (.cells #[.int .u8 kd,.string ⟨st.toArray⟩,.int .i64 xa,.int .i64 xb,.slice R en G] 66)).drew w8:=Below.grown (Ext.refl _) V (ι _) (fun i e=>by cases e);obtain⟨X2,h0⟩: ∃X2:Nat->Prop,(fun i=>X i\/(Value.slice oa en oc).ownBlock=some i)=X2:=⟨_,rfl⟩
   have R0:=η (p0.o.more (X':=X2) w0 fun i r=>by
    rw[<-h0] at r;rcases r with r|r
    ·exact .inl r
    ·refine .inr ⟨?_,(q0Q C i r).2⟩
     rcases E0 with h|h
     ·rw[h] at r;cases r
     ·rw[h] at r;cases r;exact ι _)
   have C0:Hd (∀i,X i->X2 i):=η fun i r=>by rw[<-h0];exact .inl r
   have P0:Hd (∀W,Stay X2 w8 W->Evs W oa en oc L):=η fun W kk=>by
    have hr:=q0L C fun i r=>kk i (by rw[<-h0];exact .inr r)
    have hl:=I.len;rw[<-hl] at hr⊢;obtain⟨q1,r1,e1,H0⟩:=Evs.of_own (Own.of_row hr)
    cases e1;exact H0
   have n0:=η (o0.o.ext ((Ext.refl _).drew.trans w0));have d0:=η (R0.o.app1s (by omega) (by have:=r0.o;omega) (by omega) (fun W _ ss=>P0.o W ss) z0.o B0.o);obtain⟨y1,y2,hy⟩: ∃y1 y2,apN bs st L=(y1,y2):=⟨_,_,rfl⟩
   rw[hy] at d0;simp only at d0;have HY:=η hy;refine hK.out _ _ ⟨q4s HQ.o (n0.o.cell 1),q4s HQ.o (n0.o.cell 4)⟩ (fun b=>?_);clear hK K C V E0 w0 h0 I hy d1 d4 e1 e4
   try simp only[Act.put,π,ψ,ω]
   refine q0k (i:=6) (by kernel_rfl) rfl (fun K hK=>?_)
   go_simp
   go_at_call 19
   refine d0.o.mono ?_;rintro e w9 ⟨rfl,O,L0⟩;have a0:=η (n0.o.same (L0 q (C0.o q U0.o)));have S0:=η (O.more (X':=X) (Ext.refl _) fun i r=> .inl (C0.o i r));refine hK.out _ _ ⟨q4s HQ.o (a0.o.cell 1),q4s HQ.o (a0.o.cell 4)⟩ (fun b=>?_);clear hK K O L0 d0
   try simp only[Act.put,π,ψ,ω]
   refine q0j 7 b (fun b=>?_);refine q0j 8 b (fun b=>?_);refine q0j 9 b (fun b=>?_);simp only[Act.put,π,ψ,ω];refine q2L (by kernel_rfl) ?_
   try simp only[List.drop_succ_cons,List.drop_zero]
   clear b;have e1:=q4s HQ.o (a0.o.cell 1);have e4:=q4s HQ.o (a0.o.cell 4);have e0:=η (S0.o.app2 (by omega) (by omega) x0.o z0.o B0.o);rw[HY.o] at e0;simp only at e0;go_wp2_with fail;refine e0.o.mono ?_;rintro e s1 ⟨rfl,K0,i0,j0,B⟩;have M:=η B;clear K0 B e0 e1 e4;go_wp2_with fail
   go_roundw
   case rel=>exact(fun h=>⟨_,j+1,_,_,_,_,_,rfl,rfl,by go_num,h.1,h.2.1,h.2.2.1,h.2.2.2⟩) (J.o _ _ _ _ _ _ _ (by omega) (by omega) M.o)
   case measure=>simp[intOf];omega
  ·obtain rfl:j=n:=by omega
   have hd:decide ((j:Int)<(j:Int))=false:=ε (by omega);clear y0 Z t0;go_wp2_with fail;refine bodyPost_ret (q5V rfl _ _ _) rfl ?_;exact⟨g,gs,w2.heap.size,u,m,bs,vL,vM,rfl,by rw[A0.o];exact Q.o,by have:=r0.o;omega,Z0⟩
end
end Go.Proofs.YtjlcdfpbllobaaaGreatDoor
