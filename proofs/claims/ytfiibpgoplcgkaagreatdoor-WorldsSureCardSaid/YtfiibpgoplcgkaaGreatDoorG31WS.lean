/- Walks. -/
import Derived.Test.YtfiibpgoplcgkaaGreatDoorG9WS
import Derived.Test.YtfiibpgoplcgkaaGreatDoorG30WS
set_option linter.unusedVariables false
set_option linter.unusedSimpArgs false
set_option maxRecDepth 100000
set_option maxHeartbeats 3200000
namespace Go.Proofs.YtfiibpgoplcgkaaGreatDoor
variable {w:World}{g:Nat}{F:Nat->Prop}{nx ck:Int}{L:List (List Int)}
section
open Go.RowKit
def mapN :List UInt8:=[109,97,112]
def q2J :List UInt8:=[110,101,119]
def y4k(w:World)(g:Nat)(F:Nat->Prop)(σ':DM)(r:Got)(e:Ending)(w':World):Prop:=
 ∃a c,e= .returned (.tuple #[.agg #[.int .i64 r.nx,.int .i64 r.ck,.int .u64 r.sd,.slice a r.L.length c],.int .i64 r.en])/\Grid w' a r.L.length c r.L/\DkS w g F σ' w'
theorem z7p{σ:DM}(h:Dk w g F σ)(hm:q1g σ mapN=(0,4)):
  Calls Tryz.prog 199 #[.pointer (some ⟨g,0,none⟩)] w (y4k w g F σ ⟨0,0,0,[],4⟩):=by
 have H:=η h;have d:=η (q6b (h.ext (q0C w (.cells #[.int .i64 0,.int .i64 0,.int .u64 0,.slice none 0 0] 47))) mapN (by decide));rw[hm] at d;clear h hm;have b:=Blk.new w 47 #[.int .i64 0,.int .i64 0,.int .u64 0,.slice none 0 0];have i:=η b;have j:=b.cell 0;have l:=b.cell 1;have m:=b.cell 2;have q:=b.cell 3;have r:=b.free 0;have s:=b.free 1;have u:=b.free 2;have x:=b.free 3;clear b;go_enter Tryz.func199,Tryz.ntmps199;go_wp2_with fail;refine d.o.mono ?_;rintro e w' ⟨rfl,rfl⟩;go_wp2_with fail
 ((try simp only[Exit.inBlock,Exit.then]);refine bodyPost_ret (v:= .tuple #[.agg #[_,_,_,_],_]) (by rw[results_cell_tmp rfl];go_simp;exact⟨⟨rfl,rfl,rfl,rfl⟩,rfl⟩) rfl ?_)
 exact⟨none,0,rfl,Grid.empty _,(DkS.refl H.o).ext (q0C _ _)⟩
theorem z7q{σ:DM}(h:Dk w g F σ){f:FM}(r:q0F FM.nm mapN σ.L=some f)(q:σ.down=false):
  Calls Tryz.prog 199 #[.pointer (some ⟨g,0,none⟩)] w (y4k w g F (q2h σ) (q3l f.da)):=by
 have u: ∀i,F i->i<w.heap.size:=by obtain⟨_,_,_,_,_,_,h⟩:=h;exact h
 have E:f.da.length<=1048576:=by
  have h1:f.da.length<=q0S σ.L:=q8s (q0K r).1;have h2:=h.1.used;have h3:=h.1.cap1;omega
 obtain⟨S,B⟩: ∃S,f.da=S:=⟨_,rfl⟩
 have x:q1g σ mapN=((S.length:Int),0):=by unfold q1g;rw[κ (by rw[q];decide),r,<-B]
 have y:q1k σ mapN 0 (S.length:Int)=(S,0,q2h σ):=by
  unfold q1k;rw[κ (by rw[q];decide),r];simp only;rw[B,ξ (by omega)];simp
 rw[B] at E⊢;have O:=η (q6b (h.ext (q0C w (.cells #[.int .i64 0,.int .i64 0,.int .u64 0,.slice none 0 0] 47))) mapN (by decide));rw[x] at O;have N:=η (z4o (h.ext (q0C w (.cells #[.int .i64 0,.int .i64 0,.int .u64 0,.slice none 0 0] 47))) mapN 0 (S.length:Int) (by decide) (by decide) (by decide) (by omega) (by omega));rw[y] at N;have M:=η u;clear h r q x y B u;have d:=Blk.new w 47 #[.int .i64 0,.int .i64 0,.int .u64 0,.slice none 0 0];have J:=η d;have Q:=d.cell 0;have R:=d.cell 1;have U:=d.cell 2;have V:=d.cell 3;have W:=d.free 0;have X:=d.free 1;have Y:=d.free 2;have Z:=d.free 3;clear d;go_enter Tryz.func199,Tryz.ntmps199;go_wp2_with fail;refine O.o.mono ?_;rintro e w' ⟨rfl,rfl⟩;go_wp2_with fail;refine N.o.mono ?_;rintro e w1 ⟨rfl,D⟩;have HD:=η D;have s:=η (J.o.same (D.off.block _ J.o.lt fun r=>by have:=M.o _ r;omega));have j:Hd (w.heap.size<w1.heap.size):=η s.o.lt;clear D Q R U V W X Y Z;go_wp2_with fail;refine(y3W S w1 (by omega)).mono ?_;rintro e w2 ⟨v,vs,rfl,m,I⟩;obtain⟨a,c,rfl⟩:=m.own.slice;have C:=η m;have HX:=η I;have b:=s.o.ext I;have Q:=b.cell 0;have R:=b.cell 1;have U:=b.cell 2;have V:=b.cell 3;have W:=b.free 0;have X:=b.free 1;have Y:=b.free 2;have Z:=b.free 3;clear m I b;generalize q3l S=G at*;go_wp2_with fail
 ((try simp only[Exit.inBlock,Exit.then]);refine bodyPost_ret (v:= .tuple #[.agg #[_,_,_,_],_]) (by rw[results_cell_tmp rfl];go_simp;exact⟨⟨rfl,rfl,rfl,rfl⟩,rfl⟩) rfl ?_)
 obtain⟨a2,c2,e2,hg⟩:=((((C.o.setBelow j.o 0 (.int .i64 G.nx)).setBelow j.o 1 (.int .i64 G.ck)).setBelow j.o 2 (.int .u64 G.sd)).setBelow j.o 3 (.slice a G.L.length c)).grid
 cases e2;refine⟨a,c,rfl,hg,DkS.box (q0C w (.cells #[.int .i64 0,.int .i64 0,.int .u64 0,.slice none 0 0] 47)) (HD.o.ext HX.o) M.o (by simp[World.setCell]) rfl rfl rfl fun i hi hn=>?_⟩;have l:i≠w.heap.size:=fun e=>hn (by rw[ρ];omega)
 rw[q0M _ _ l,q0M _ _ l,q0M _ _ l,q0M _ _ l]
def q3D(r:Int×DM)(k:DM->Int×DM):Int×DM:=if r.1=0 then k r.2 else r
def q6U(σ:DM):Int:=if σ.down then 61 else 0
def q6r(σ:DM)(nm:List UInt8):Int×DM:=if (q0V σ nm).1=4 then(0,(q0V σ nm).2) else q0V σ nm
def z9B(σ:DM)(S:List UInt8):Int×DM:=
 if q4J σ-(S.length:Int)<6000 then(60,σ) else
 q3D (q0h σ q2J) fun b=>q3D (q0m b q2J S) fun c=>q3D (q3K c q2J) fun d=>q1P d q2J mapN
def q1v(σ:DM)(S:List UInt8)(e:Int):Int×DM:=
 if e≠0 then(e,σ) else if σ.down then(61,σ) else q3D (q6r σ q2J) fun a=>z9B a S
theorem new_ne_map :q2J≠mapN:=by decide
variable {σ :DM}{o:Option (List UInt8)}
end
section
open Go.RowKit
theorem y3R(sd:Int)(h:q0e nx ck L=true):(q1S (q2C nx ck sd L)).length<=300:=by
 have b:=q4A (q2U h).2.1;have h1:(q0c L).length<=L.length:=by unfold q0c;rw[Θ];omega
 have h2:(q0c L).flatten.length<=L.flatten.length:=by unfold q0c;exact q2A L _
 have h3:=b.1;have h4:=b.2.1;rw[q0v];unfold q2C;rw[θ,q5f,q5l];omega
theorem z4k{σ:DM}(h:Dk w g F σ):Calls Tryz.prog 203 #[.pointer (some ⟨g,0,none⟩)] w fun e w'=>e= .returned (.int .i64 (q6U σ))/\w=w':=by
 have d:=η (q6b h [] (by decide));have hc: ∃z c,q1g σ []=(z,c)/\((c=61/\q6U σ=61)\/(c=4/\q6U σ=0)\/(c=0/\q6U σ=0)):=by
  unfold q1g q6U
  split
  ·exact⟨_,_,rfl,.inl ⟨rfl,rfl⟩⟩
  ·split
   ·exact⟨_,_,rfl,.inr (.inl ⟨rfl,rfl⟩)⟩
   ·exact⟨_,_,rfl,.inr (.inr ⟨rfl,rfl⟩)⟩
 obtain⟨z,c,i,hc⟩:=hc;rw[i] at d;clear h i;rcases hc with⟨rfl,b⟩|⟨rfl,b⟩|⟨rfl,b⟩<;>rw[b]<;>clear b
 all_goals
  go_enter Tryz.func203,Tryz.ntmps203;go_wp2_with fail;refine d.o.mono ?_;rintro e w' ⟨rfl,rfl⟩;go_wp2_with fail;go_ret;exact⟨rfl,rfl⟩
theorem y3F{σ:DM}(h:Dk w g F σ)(nm:List UInt8)(v:nm.length<=9223372036854775807):Calls Tryz.prog 289 #[.pointer (some ⟨g,0,none⟩),.string ⟨nm.toArray⟩] w fun e w'=>e= .returned (.int .i64 (q6r σ nm).1)/\DkS w g F (q6r σ nm).2 w':=by
 have j:=η (q5L h nm v);obtain⟨r,l⟩: ∃r,q0V σ nm=r:=⟨_,rfl⟩
 rw[l] at j;have m:Hd (q6r σ nm=if r.1=4 then(0,r.2) else r):=η (by unfold q6r;rw[l]);obtain⟨c,q⟩:=r;clear h l;by_cases h4:c=4
 ·have i:Hd (q6r σ nm=(0,q)):=η (by rw[m.o];simp only;rw[ξ h4])
  subst h4;rw[i.o];go_enter Tryz.func289,Tryz.ntmps289;go_wp2_with fail;refine j.o.mono ?_;rintro e w' ⟨rfl,b⟩;have d:=η b;clear b;go_wp2_with fail;go_ret;exact⟨rfl,d.o⟩
 ·have i:Hd (q6r σ nm=(c,q)):=η (by rw[m.o];simp only;rw[κ h4])
  rw[i.o];have s:(c !=4)=true:=by simpa using h4
  have u:(c==4)=false:=by simpa using h4
  clear h4;go_enter Tryz.func289,Tryz.ntmps289;go_wp2_with fail;refine j.o.mono ?_;rintro e w' ⟨rfl,b⟩;have d:=η b;clear b;go_wp2_with fail;go_ret;exact⟨rfl,d.o⟩
theorem z3G{σ:DM}(h:Dk w g F σ):0<=q4J σ/\q4J σ<=1048576:=by
 have h1:=h.1.used;have h2:=h.1.cap1;unfold q4J;omega
theorem y3x{σ:DM}(h:Dk w g F σ){ao:Option Addr}{n cap:Nat}{sd:Int}(hG:Grid w ao n cap L)(y:L.flatten.length<=17592186044416)(V: ∀x∈L.flatten,(Lit.int .i64 x).wf=true)(R:0<=sd)(U:sd<18446744073709551616){S:List UInt8}{E:Int}(hS:q2g nx ck sd L=(S,E))(m0:(S.length:Int)<=1000000):
  Calls Tryz.prog 233 #[.pointer (some ⟨g,0,none⟩),.agg #[.int .i64 nx,.int .i64 ck,.int .u64 sd,.slice ao n cap]] w fun e w'=>e= .returned (.int .i64 (q1v σ S E).1)/\DkS w g F (q1v σ S E).2 w':=by
 have l:=q0C w (.cells #[.int .i64 nx,.int .i64 ck,.int .u64 sd,.slice ao n cap] 47);have i:=η ((DkS.refl h).ext l);have X:=η (y0w nx ck sd ao n cap L _ (hG.ext l) y V R U);rw[hS] at X;have q:=Blk.new w 47 #[.int .i64 nx,.int .i64 ck,.int .u64 sd,.slice ao n cap];have d0:=q.cell 0;have d1:=q.cell 1;have d2:=q.cell 2;have d3:=q.cell 3;clear h hG y V R U hS l q;by_cases Z:E=0
 case neg=>
  have HM:Hd (q1v σ S E=(E,σ)):=η (by unfold q1v;rw[ξ Z]);rw[HM.o];have n0:(E !=0)=true:=by simpa using Z
  clear Z;have Q:q6U σ=61\/q6U σ=0:=by unfold q6U;split;exact .inl rfl;exact .inr rfl
  go_enter Tryz.func233,Tryz.ntmps233;go_wp2_with fail;refine X.o.mono ?_;rintro e w1 ⟨rfl,l⟩;have i:=η (i.o.ext l);clear l d0 d1 d2 d3;go_wp2_with fail;refine(z4k i.o.dk).mono ?_;rcases Q with Q|Q<;>rw[Q]<;>clear Q
  all_goals
   rintro e w' ⟨rfl,rfl⟩;go_wp2_with fail;go_ret;exact⟨rfl,i.o⟩
 case pos=>
 subst Z
 cases j:σ.down with
 | true=>
  have HM:Hd (q1v σ S 0=(61,σ)):=η (by unfold q1v;rw[κ (by decide),ξ j]);have HO:Hd (q6U σ=61):=η (by unfold q6U;rw[ξ j]);rw[HM.o];clear j;go_enter Tryz.func233,Tryz.ntmps233;go_wp2_with fail;refine X.o.mono ?_;rintro e w1 ⟨rfl,l⟩;have i:=η (i.o.ext l);clear l d0 d1 d2 d3;go_wp2_with fail;refine(z4k i.o.dk).mono ?_;rw[HO.o];rintro e w' ⟨rfl,rfl⟩;go_wp2_with fail;go_ret;exact⟨rfl,i.o⟩
 |false=>
 have HO:Hd (q6U σ=0):=η (by unfold q6U;rw[κ (by rw[j];decide)]);obtain⟨r0,e0⟩: ∃r,q6r σ q2J=r:=⟨_,rfl⟩
 have G:Hd (q1v σ S 0=q3D r0 fun a=>z9B a S):=η (by unfold q1v;rw[κ (by decide),κ (by rw[j];decide),e0]);have a0:=η e0;obtain⟨c0,W⟩:=r0;clear j e0;go_enter Tryz.func233,Tryz.ntmps233;go_wp2_with fail;refine X.o.mono ?_;rintro e w1 ⟨rfl,l⟩;have i:=η (i.o.ext l);clear l d0 d1 d2 d3;go_wp2_with fail;refine(z4k i.o.dk).mono ?_;rw[HO.o];rintro e w' ⟨rfl,rfl⟩;go_wp2_with fail;refine(y3F i.o.dk q2J (by decide)).mono ?_;rw[a0.o];rintro e w2 ⟨rfl,j⟩;have i:=η (i.o.trans j);clear j;by_cases Y:c0=0
 case neg=>
  have q:(c0 !=0)=true:=by simpa using Y
  have m:Hd (q1v σ S 0=(c0,W)):=η (by rw[G.o,q3D,κ Y]);clear Y;go_wp2_with fail;go_ret;rw[m.o];exact⟨rfl,i.o⟩
 case pos=>
 subst Y;have I:Hd (q1v σ S 0=z9B W S):=η (by rw[G.o,q3D,ξ rfl]);have O:=z3G i.o.dk;obtain⟨fr,C⟩: ∃fr,q4J W=fr:=⟨_,rfl⟩
 have B:=η C;rw[C] at O;obtain⟨k0,l0⟩:=O;have hw:IntKind.i64.wrap (fr-(S.length:Int))=fr-(S.length:Int):=IntWalk.i64_in _ (by omega);clear C;go_wp2_with fail;refine(z7Z i.o.dk).mono ?_;rw[B.o];rintro e w3 ⟨rfl,l⟩;have i:=η (i.o.ext l);clear l;by_cases D:fr-(S.length:Int)<6000
 case pos=>
  have m:Hd (q1v σ S 0=(60,W)):=η (by rw[I.o,z9B,B.o,ξ D]);go_wp2_with fail;go_ret;rw[m.o];exact⟨rfl,i.o⟩
 case neg=>
 obtain⟨r1,e1⟩: ∃r,q0h W q2J=r:=⟨_,rfl⟩
 have J:Hd (q1v σ S 0=q3D r1 fun b=>q3D (q0m b q2J S) fun c=>q3D (q3K c q2J) fun d=>q1P d q2J mapN):=η (by rw[I.o,z9B,B.o,κ D,e1]);have b0:=η e1;obtain⟨c1,s1⟩:=r1;clear e1;go_wp2_with fail;refine(q7d i.o.dk q2J (by decide)).mono ?_;rw[b0.o];rintro e w4 ⟨rfl,j⟩;have i:=η (i.o.trans j);clear j hw k0 l0 D;by_cases s:c1=0
 case neg=>
  have q:(c1 !=0)=true:=by simpa using s
  have m:Hd (q1v σ S 0=(c1,s1)):=η (by rw[J.o,q3D,κ s]);clear s;go_wp2_with fail;go_ret;rw[m.o];exact⟨rfl,i.o⟩
 case pos=>
 subst s;obtain⟨r2,e2⟩: ∃r,q0m s1 q2J S=r:=⟨_,rfl⟩
 have M:Hd (q1v σ S 0=q3D r2 fun c=>q3D (q3K c q2J) fun d=>q1P d q2J mapN):=η (by rw[J.o,q3D,ξ rfl];rw[e2]);have f0:=η e2;obtain⟨c2,s2⟩:=r2;clear e2;go_wp2_with fail;refine(q6E i.o.dk q2J S (by decide) (by omega)).mono ?_;rw[f0.o];rintro e w5 ⟨rfl,j⟩;have i:=η (i.o.trans j);clear j;by_cases u:c2=0
 case neg=>
  have q:(c2 !=0)=true:=by simpa using u
  have m:Hd (q1v σ S 0=(c2,s2)):=η (by rw[M.o,q3D,κ u]);clear u;go_wp2_with fail;go_ret;rw[m.o];exact⟨rfl,i.o⟩
 case pos=>
 subst u;obtain⟨r3,e3⟩: ∃r,q3K s2 q2J=r:=⟨_,rfl⟩
 have N:Hd (q1v σ S 0=q3D r3 fun d=>q1P d q2J mapN):=η (by rw[M.o,q3D,ξ rfl];rw[e3]);have g0:=η e3;obtain⟨c3,s3⟩:=r3;clear e3;go_wp2_with fail;refine(z2O i.o.dk q2J (by decide)).mono ?_;rw[g0.o];rintro e w6 ⟨rfl,j⟩;have i:=η (i.o.trans j);clear j;by_cases v:c3=0
 case neg=>
  have q:(c3 !=0)=true:=by simpa using v
  have m:Hd (q1v σ S 0=(c3,s3)):=η (by rw[N.o,q3D,κ v]);clear v;go_wp2_with fail;go_ret;rw[m.o];exact⟨rfl,i.o⟩
 case pos=>
 subst v;obtain⟨r4,e4⟩: ∃r,q1P s3 q2J mapN=r:=⟨_,rfl⟩
 have j0:Hd (q1v σ S 0=r4):=η (by rw[N.o,q3D,ξ rfl];exact e4);have i0:=η e4;obtain⟨c4,s4⟩:=r4;clear e4;go_wp2_with fail;refine(z4t i.o.dk q2J mapN (by decide) (by decide)).mono ?_;rw[i0.o];rintro e w7 ⟨rfl,j⟩;have i:=η (i.o.trans j);clear j;go_wp2_with fail;go_ret;rw[j0.o];exact⟨rfl,i.o⟩
end
end Go.Proofs.YtfiibpgoplcgkaaGreatDoor
