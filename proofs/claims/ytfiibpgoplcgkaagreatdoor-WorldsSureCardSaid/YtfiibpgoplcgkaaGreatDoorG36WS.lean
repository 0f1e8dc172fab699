/- Walks. -/
import Derived.Test.YtfiibpgoplcgkaaGreatDoorG13WS
import Derived.Test.YtfiibpgoplcgkaaGreatDoorG34WS
import Derived.Test.YtfiibpgoplcgkaaGreatDoorG35WS
set_option linter.unusedVariables false
set_option linter.unusedSimpArgs false
set_option maxRecDepth 100000
set_option maxHeartbeats 12800000
namespace Go.Proofs.YtfiibpgoplcgkaaGreatDoor
variable {a p:List UInt8}{bd bs bn k:Nat}{Q:List FM->Prop}{r:Int}
section
open Go.RowKit
theorem z6F(s:List UInt8)(n:Nat)(w:World)(J:n<200)(N:s.length<12)(y:z1E (q1e n) s=true):
  Calls Tryz.prog 163 #[.string ⟨s.toArray⟩,.int .i64 (n:Int)] w fun e w'=> ∃v,e= .returned (.tuple #[v,.int .i64 0,.bool true])/\(∃ao k c,v= .slice ao k c)/\Ext w w':=by
 have i:=q1f n;have I:=η (fun W=>q9z n W J);have d:z1E s (q1e n)=false:=by unfold z1E;rw[ε (by omega)];rfl
 generalize q1e n=H at*;have q:=η (fun W=>q5j s H W (by omega) (by omega));rw[d] at q;have b:=η (fun W=>q5j H s W (by omega) (by omega));rw[y] at b;clear y d;have j:(H==[])=false:=by cases H with|nil=>cases i|cons=>rfl
 have M:¬H=[]:=by simpa using j
 go_enter Tryz.func163,Tryz.ntmps163;go_wp2_with fail;refine(I.o _).mono ?_;rintro e w1 ⟨rfl,x⟩;have G:=η x;clear x;go_wp2_with fail;refine(q.o _).mono ?_;rintro e w2 ⟨rfl,rfl⟩;go_wp2_with fail;refine(b.o _).mono ?_;rintro e O ⟨rfl,rfl⟩;go_wp2_with fail;go_ret3;exact⟨_,rfl,⟨_,_,_,rfl⟩,G.o⟩
def y2o(L:List FM):Prop:= ∀f∈L,f.sy=f.da.length\/f.nm=[110,101,119]
theorem z2l{σ σ':DM}{t:List UInt8}(h:q0m σ [110,101,119] t=(0,σ'))(d:AllS σ.L):y2o σ'.L:=fun f i=>by
 obtain⟨j,b,⟨h1,rfl⟩|⟨h1,rfl⟩⟩:=q6j h i
 ·exact .inr h1
 ·exact .inl (d _ b)
theorem z8g{σ σ':DM}(h:q3K σ [110,101,119]=(0,σ'))(j:y2o σ.L):AllS σ'.L:=by
 unfold q3K at h
 split at h
 ·exact(q1U (by decide) h).elim
 split at h
 ·exact(q1U (by decide) h).elim
 split at h
 ·exact(q1U (by decide) h).elim
 have e:=congrArg Prod.snd h;subst e;intro f o;obtain⟨d,i,rfl⟩:=List.mem_map.1 (show f∈σ.L.map (fun y=>if y.nm==[110,101,119] then {y with sy:=y.da.length} else y) from o);by_cases b:d.nm=[110,101,119]
 ·rw[ξ (by simpa using b)]
 ·rw[κ (by simpa using b)]
  exact(j d i).resolve_right b
theorem z6D{σ σ':DM}{b:List UInt8}(h:q1P σ a b=(0,σ'))(d:AllS σ.L):AllS σ'.L:=by
 unfold q1P at h
 split at h
 ·exact(q1U (by decide) h).elim
 split at h
 ·exact(q1U (by decide) h).elim
 rename_i f j
 split at h
 ·exact(q1U (by decide) h).elim
 split at h
 ·exact(q1U (by decide) h).elim
 split at h
 ·have e:=congrArg Prod.snd h
  subst e;exact d
 ·have e:=congrArg Prod.snd h
  subst e;intro i hm;rcases mem_insN.1 (show i∈q1K FM.nm {f with nm:=b} (delN FM.nm a (delN FM.nm b σ.L)) from hm) with rfl|hm
  ·exact d f (q0K j).1
  ·exact d i (mem_delN.1 (mem_delN.1 hm).1).1
theorem z5d{σ σ':DM}(h:q0V σ a=(0,σ'))(b:AllS σ.L):AllS σ'.L:=by
 unfold q0V at h
 split at h
 ·exact(q1U (by decide) h).elim
 split at h
 ·exact(q1U (by decide) h).elim
 split at h
 ·exact(q1U (by decide) h).elim
 have e:=congrArg Prod.snd h;subst e;exact fun f d=>b f (mem_delN.1 (show f∈delN FM.nm a σ.L from d)).1
section
variable {E :Oth}{w0 w:World}{g gl:Nat}{F K:Nat->Prop}{v:Value}{σ:DM}{c s sure:Int}{C D:Cks}{xs:List Int}{l:List (List UInt8×List UInt8)}{t:List UInt8}
theorem z9R(i:okOth E)(d:D.length<=200)(t u x:List UInt8):(q0F Prod.fst x (q4C E D u)).map Prod.snd=if x=q0B 99 (D.length:Int) then some u else(q0F Prod.fst x (q4C E D t)).map Prod.snd:=by
 by_cases b:x=q0B 99 (D.length:Int)
 ·rw[ξ b,b,q8A i d];rfl
 ·rw[κ b]
  have h1: ∀z:List UInt8,(q0B 99 (D.length:Int)==x)=false:=fun _=>by simpa using fun e=>b e.symm
  unfold q4C q0F;simp only[List.find?_append,List.find?_cons,h1 x]
theorem z9S{u:List UInt8}(h:q2S Prod.fst (q4C E D t)):q2S Prod.fst (q4C E D u):=by
 have e: ∀l:List (List UInt8×List UInt8),q2S Prod.fst l↔(l.map Prod.fst).Pairwise fun x y=>bytesBefore x y=true:=fun l=>by unfold q2S;rw[List.pairwise_map]
 rw[e,q9M] at h⊢;exact h
theorem z6p(y:okOth E)(q:D.length<=200){u:List UInt8}(G:q2S Prod.fst (q4C E D t)):
  q1K Prod.fst (q0B 99 (D.length:Int),u) (delN Prod.fst [110,101,119] (delN Prod.fst (q0B 99 (D.length:Int)) (q1K Prod.fst ([110,101,119],u) (q4C E D t))))=q4C E D u:=by
 have b:=z0C y q t;have j:q0B 99 (D.length:Int)≠[110,101,119]:=fun e=>by
  rw[q0R (by omega)] at e;exact absurd (List.cons.inj e).1 (by decide)
 have O:q2S Prod.fst (q1K Prod.fst (([110,101,119]:List UInt8),u) (q4C E D t)):=q2v G (q0U b);have J:=Fl.put (φ:=fun x=>(q0F Prod.fst x (q4C E D t)).map Prod.snd) (nm:=[110,101,119]) (fun _=>rfl) (by rw[b];rfl) u;have M:=Fl.cut J (q0B 99 (D.length:Int));have o:=Fl.cut M [110,101,119];have I:q9F (q9F (q5u (fun x=>(q0F Prod.fst x (q4C E D t)).map Prod.snd) [110,101,119] u) (q0B 99 (D.length:Int))) [110,101,119] (q0B 99 (D.length:Int))=none:=by
  unfold q9F;rw[κ j,ξ rfl]
 have N:=Fl.put o I u;have R:=q2H (nm:=[110,101,119]) (q2H (nm:=q0B 99 (D.length:Int)) O);refine z0i (q2v R (q0U (Fl.noFind o I))) (z9S G) fun x=>?_
 rw[N x,z9R y q t u x];unfold q5u q9F;by_cases i:x=q0B 99 (D.length:Int)
 ·rw[ξ i,ξ i]
 ·by_cases d:x=[110,101,119]
  ·subst d
   simp only[κ i,if_true,b,Option.map_none]
  ·simp only[κ i,κ d]
theorem y1H(h:LgP E w0 w g gl c s l xs sure AllS K)(J:q0F Prod.fst [110,101,119] l=none)(hm:l.length<400)(R:K bd)(q:w.cell? ⟨bd,0,none⟩=some (.pointer (some ⟨g,0,none⟩))):
  Calls Tryz.prog 307 #[.pointer (some ⟨bd,0,none⟩)] w fun e w'=>e= .returned (.int .i64 0)/\LgP E w0 w' g gl c s (q1K Prod.fst ([110,101,119],[]) l) xs sure AllS K/\Stay K w w':=by
 obtain⟨F,v,σ,h,y,M,G⟩:=h;obtain⟨σ',hc,i⟩:=M.create J (by decide) hm;have b:=q9P hc G
 have j:=η (show Calls Tryz.prog 211 #[.pointer (some ⟨g,0,none⟩),.string ⟨([110,101,119]:List UInt8).toArray⟩] w fun e w'=>e= .returned (.int .i64 0)/\DkS w g F σ' w' by
  have:=q7d h.d [110,101,119] (by decide);rw[hc] at this
  exact this)
 have O:=η (And.intro y (And.intro i b));have N:=η h;clear h M i y hc G b J;go_enter Tryz.func307,Tryz.ntmps307;go_wp2_with fail;refine j.o.mono ?_;rintro e w1 ⟨rfl,I⟩;have h3:=N.o.disk I;have x:=η h3;clear I h3 q;go_wp2_with fail;go_ret;exact⟨rfl,⟨_,_,σ',x.o.1,O.o⟩,x.o.2⟩
theorem y1I(h:LgP E w0 w g gl c s (q1K Prod.fst ([110,101,119],[]) l) xs sure AllS K)(I:q0F Prod.fst [110,101,119] l=none)(X:(t.length:Int)<=c+(q1b E:Int)-(q1R l:Int))(Z:t.length<=4096)(kd:K bd)(ks:K bs)(y:w.cell? ⟨bd,0,none⟩=some (.pointer (some ⟨g,0,none⟩)))
  (G:w.cell? ⟨bs,0,none⟩=some (.string ⟨t.toArray⟩)):
  Calls Tryz.prog 308 #[.pointer (some ⟨bd,0,none⟩),.pointer (some ⟨bs,0,none⟩)] w fun e w'=>e= .returned (.int .i64 0)/\LgP E w0 w' g gl c s (q1K Prod.fst ([110,101,119],t) l) xs sure y2o K/\Stay K w w':=by
 obtain⟨F,v,σ,h,M,R,N⟩:=h;have j:=q3h (k:=Prod.fst) (x:=(([110,101,119]:List UInt8),([]:List UInt8))) (q0U I);obtain⟨σ',hc,b⟩:=R.append (t:=t) j (by rw[q4R];simp only[List.length_nil];omega);rw[q7p (q0U I)] at b;have i:=z2l hc N
 have q:=η (fun (W:World) (k:Ext w W)=>show Calls Tryz.prog 208 #[.pointer (some ⟨g,0,none⟩),.string ⟨([110,101,119]:List UInt8).toArray⟩,.string ⟨t.toArray⟩] W fun e w'=>e= .returned (.int .i64 0)/\DkS W g F σ' w' by
  have:=q6E (h.d.ext k) [110,101,119] t (by decide) (by omega);rw[hc] at this
  exact this)
 have V:=η (And.intro M (And.intro b i));have U:=η h;clear h R b M hc N i I j;go_enter Tryz.func308,Tryz.ntmps308;go_wp2_with fail;refine(q.o _ (Ext.refl _)).mono ?_;rintro e w1 ⟨rfl,O⟩;have h3:=U.o.disk O;have J:=η h3;clear O h3 y G;go_wp2_with fail;go_ret;exact⟨rfl,⟨_,_,σ',J.o.1,V.o⟩,J.o.2⟩
theorem y1J(h:LgP E w0 w g gl c s (q1K Prod.fst ([110,101,119],t) l) xs sure y2o K)(N:q0F Prod.fst [110,101,119] l=none)(V:K bd)(y:w.cell? ⟨bd,0,none⟩=some (.pointer (some ⟨g,0,none⟩))):
  Calls Tryz.prog 309 #[.pointer (some ⟨bd,0,none⟩)] w fun e w'=>e= .returned (.int .i64 0)/\LgP E w0 w' g gl c s (q1K Prod.fst ([110,101,119],t) l) xs sure AllS K/\Stay K w w':=by
 obtain⟨F,v,σ,h,I,O,J⟩:=h;have j:=q3h (k:=Prod.fst) (x:=(([110,101,119]:List UInt8),t)) (q0U N);obtain⟨σ',hc,i⟩:=O.sync j;have b:=z8g hc J
 have q:=η (show Calls Tryz.prog 228 #[.pointer (some ⟨g,0,none⟩),.string ⟨([110,101,119]:List UInt8).toArray⟩] w fun e w'=>e= .returned (.int .i64 0)/\DkS w g F σ' w' by
  have:=z2O h.d [110,101,119] (by decide);rw[hc] at this
  exact this)
 have U:=η (And.intro I (And.intro i b));have R:=η h;clear h O i I hc J b N j;go_enter Tryz.func309,Tryz.ntmps309;go_wp2_with fail;refine q.o.mono ?_;rintro e w1 ⟨rfl,M⟩;have h3:=R.o.disk M;have G:=η h3;clear M h3 y;go_wp2_with fail;go_ret;exact⟨rfl,⟨_,_,σ',G.o.1,U.o⟩,G.o.2⟩
theorem y1K{nm:List UInt8}(h:LgP E w0 w g gl c s (q1K Prod.fst ([110,101,119],t) l) xs sure AllS K)(R:q0F Prod.fst [110,101,119] l=none)(U:q1t nm=true)(i:[110,101,119]≠nm)(a0:nm.length<=1000)(kd:K bd)(kn:K bn)(G:w.cell? ⟨bd,0,none⟩=some (.pointer (some ⟨g,0,none⟩)))
  (I:w.cell? ⟨bn,0,none⟩=some (.string ⟨nm.toArray⟩)):
  Calls Tryz.prog 310 #[.pointer (some ⟨bd,0,none⟩),.pointer (some ⟨bn,0,none⟩)] w fun e w'=>e= .returned (.int .i64 0)/\LgP E w0 w' g gl c s (q1K Prod.fst (nm,t) (delN Prod.fst [110,101,119] (delN Prod.fst nm (q1K Prod.fst ([110,101,119],t) l)))) xs sure AllS K/\Stay K w w':=by
 obtain⟨F,v,σ,h,M,V,N⟩:=h;have q:=q3h (k:=Prod.fst) (x:=(([110,101,119]:List UInt8),t)) (q0U R);obtain⟨σ',hc,j⟩:=V.rename q U i;have b:=z6D hc N
 have y:=η (fun (W:World) (k:Ext w W)=>show Calls Tryz.prog 290 #[.pointer (some ⟨g,0,none⟩),.string ⟨([110,101,119]:List UInt8).toArray⟩,.string ⟨nm.toArray⟩] W fun e w'=>e= .returned (.int .i64 0)/\DkS W g F σ' w' by
  have:=z4t (h.d.ext k) [110,101,119] nm (by decide) (by omega);rw[hc] at this
  exact this)
 have Z:=η (And.intro M (And.intro j b));have X:=η h;clear h V j M hc N b R q i U;go_enter Tryz.func310,Tryz.ntmps310;go_wp2_with fail;refine(y.o _ (Ext.refl _)).mono ?_;rintro e w1 ⟨rfl,O⟩;have h3:=X.o.disk O;have J:=η h3;clear O h3 G I;go_wp2_with fail;go_ret;exact⟨rfl,⟨_,_,σ',J.o.1,Z.o⟩,J.o.2⟩
end
section
variable {E :Oth}{w0 w:World}{g gl:Nat}{F K:Nat->Prop}{v:Value}{σ:DM}{c s sure:Int}{C D:Cks}{xs:List Int}{l:List (List UInt8×List UInt8)}{t:List UInt8}
def z1G(E:Oth)(w0:World)(g gl:Nat)(c s:Int)(l:List (List UInt8×List UInt8))(nm t:List UInt8)(xs:List Int)(sure:Int)(K:Nat->Prop):Nat->World->Prop
 |0,W=>LgP E w0 W g gl c s l xs sure AllS K
 |1,W=>LgP E w0 W g gl c s (q1K Prod.fst ([110,101,119],[]) l) xs sure AllS K
 |2,W=>LgP E w0 W g gl c s (q1K Prod.fst ([110,101,119],t) l) xs sure y2o K
 |3,W=>LgP E w0 W g gl c s (q1K Prod.fst ([110,101,119],t) l) xs sure AllS K
 |_,W=>LgP E w0 W g gl c s (q1K Prod.fst (nm,t) (delN Prod.fst [110,101,119] (delN Prod.fst nm (q1K Prod.fst ([110,101,119],t) l)))) xs sure AllS K
theorem y2u{nm:List UInt8}(h:LgP E w0 w g gl c s l xs sure AllS K)(hf:q0F Prod.fst [110,101,119] l=none)(hm:l.length<400)(hr:(t.length:Int)<=c+(q1b E:Int)-(q1R l:Int))(ht:t.length<=4096)(hk:q1t nm=true)(Z:[110,101,119]≠nm)(a0:nm.length<=1000)
  {b:Nat}(kb:K b)(kd:K bd)(kn:K bn)(ks:K bs)
  (M:w.cell? ⟨b,0,none⟩=some (.func (.func 307) #[] #[.pointer (some ⟨bd,0,none⟩)]))
  (N:w.cell? ⟨b,1,none⟩=some (.func (.func 308) #[] #[.pointer (some ⟨bd,0,none⟩),.pointer (some ⟨bs,0,none⟩)]))
  (O:w.cell? ⟨b,2,none⟩=some (.func (.func 309) #[] #[.pointer (some ⟨bd,0,none⟩)]))
  (R:w.cell? ⟨b,3,none⟩=some (.func (.func 310) #[] #[.pointer (some ⟨bd,0,none⟩),.pointer (some ⟨bn,0,none⟩)]))
  (U:w.cell? ⟨bd,0,none⟩=some (.pointer (some ⟨g,0,none⟩)))(V:w.cell? ⟨bn,0,none⟩=some (.string ⟨nm.toArray⟩))(X:w.cell? ⟨bs,0,none⟩=some (.string ⟨t.toArray⟩)):
  Calls Tryz.prog 209 #[.slice (some ⟨b,0,none⟩) 4 4] w fun e w'=>e= .returned (.int .i64 0)/\LgP E w0 w' g gl c s (q1K Prod.fst (nm,t) (delN Prod.fst [110,101,119] (delN Prod.fst nm (q1K Prod.fst ([110,101,119],t) l)))) xs sure AllS K/\Stay K w w':=by
 have H:=η h;have HB:=η (show∀W,Stay K w W->W.cell? ⟨b,0,none⟩=_/\W.cell? ⟨b,1,none⟩=_/\W.cell? ⟨b,2,none⟩=_/\W.cell? ⟨b,3,none⟩=_ from fun W k=>⟨q0g k kb M,q0g k kb N,q0g k kb O,q0g k kb R⟩);have HL:=η (show∀W,Stay K w W->W.cell? ⟨bd,0,none⟩=_/\W.cell? ⟨bn,0,none⟩=_/\W.cell? ⟨bs,0,none⟩=_ from fun W k=>⟨q0g k kd U,q0g k kn V,q0g k ks X⟩);have q:=η kd;have b0:=η kn;have c0:=η ks;have HF:=η hf;have HM:=η hm;have HR:=η hr;have HT:=η ht;have f0:=η hk;have d0:=η Z;have e0:=η a0;clear h kb kd kn ks M N O R U V X hf hm hr ht hk Z a0;go_enter Tryz.func209,Tryz.ntmps209;go_wp2_with fail
 go_loopw [8] (fun i W=> ∃k:Nat,k<=4/\i= .int .i64 (k:Int)/\z1G E w0 g gl c s l nm t xs sure K k W/\Stay K w W) (fun i _=>4-(intOf i).toNat)
 case atStart=>exact⟨0,by omega,rfl,H.o,Stay.refl _ _⟩
 case round=>
  obtain⟨k,hk,rfl,hs,x⟩:=hrel;have J:=η hs;have j:=η x;obtain⟨q0,q1,q2,q3⟩:=HB.o wr x;have d:=η (HL.o wr x);clear hs x;obtain rfl|rfl|rfl|rfl|rfl:k=0\/k=1\/k=2\/k=3\/k=4:=by omega
  ·have I:=η (y1H J.o HF.o HM.o q.o d.o.1)
   go_wp2_with fail;refine I.o.mono ?_;rintro e w1 ⟨rfl,h1,h2⟩;have y:=η (show z1G E w0 g gl c s l nm t xs sure K 1 w1 from h1);have G:=η (j.o.trans h2);clear h1 h2;go_wp2_with fail
   go_roundw
   case rel=>exact⟨1,by omega,by go_num,y.o,G.o⟩
   case measure=>simp[intOf]
  ·have I:=η (y1I J.o HF.o HR.o HT.o q.o c0.o d.o.1 d.o.2.2)
   go_wp2_with fail;refine I.o.mono ?_;rintro e w1 ⟨rfl,h1,h2⟩;have y:=η (show z1G E w0 g gl c s l nm t xs sure K 2 w1 from h1);have G:=η (j.o.trans h2);clear h1 h2;go_wp2_with fail
   go_roundw
   case rel=>exact⟨2,by omega,by go_num,y.o,G.o⟩
   case measure=>simp[intOf]
  ·have I:=η (y1J J.o HF.o q.o d.o.1)
   go_wp2_with fail;refine I.o.mono ?_;rintro e w1 ⟨rfl,h1,h2⟩;have y:=η (show z1G E w0 g gl c s l nm t xs sure K 3 w1 from h1);have G:=η (j.o.trans h2);clear h1 h2;go_wp2_with fail
   go_roundw
   case rel=>exact⟨3,by omega,by go_num,y.o,G.o⟩
   case measure=>simp[intOf]
  ·have I:=η (y1K J.o HF.o f0.o d0.o e0.o q.o b0.o d.o.1 d.o.2.1)
   go_wp2_with fail;refine I.o.mono ?_;rintro e w1 ⟨rfl,h1,h2⟩;have y:=η (show z1G E w0 g gl c s l nm t xs sure K 4 w1 from h1);have G:=η (j.o.trans h2);clear h1 h2;go_wp2_with fail
   go_roundw
   case rel=>exact⟨4,by omega,by go_num,y.o,G.o⟩
   case measure=>simp[intOf]
  ·go_wp2_with fail
   go_ret;exact⟨rfl,J.o,j.o⟩
theorem LgP.more{w1:World}{K':Nat->Prop}(h:LgP E w0 w g gl c s l xs sure Q K)(k:Ext w w1)(hK: ∀i,K' i->K i\/(w.heap.size<=i/\i<w1.heap.size)):LgP E w0 w1 g gl c s l xs sure Q K':=by
 obtain⟨F,v,σ,h1,h2⟩:=h;have h3:=h1.grow k;refine⟨F,v,σ,⟨h3.d,h3.l,h3.ap,h3.bF,h3.bG,h3.ext,fun i x=>?_⟩,h2⟩;have b: ∀i,F i->i<w.heap.size:=by obtain⟨_,_,_,_,_,_,h⟩:=h1.d;exact h
 rcases hK i x with h4|⟨h4,j⟩
 ·exact h3.k i h4
 ·refine⟨j,fun o=>?_,fun q=>?_⟩
  ·have:=b i o;omega
  ·have:=h1.l.lt q;omega
theorem LgP.beside{K':Nat->Prop}(h:LgP E w0 w g gl c s l xs sure Q K)(k: ∀i,K' i->K i):LgP E w0 w g gl c s l xs sure Q K':=by
 obtain⟨F,v,σ,h1,h2⟩:=h;exact⟨F,v,σ,h1.beside k,h2⟩
theorem LgP.kExt{w1:World}(h:LgP E w0 w g gl c s l xs sure Q K)(k:Ext w w1):Stay K w w1:=by
 obtain⟨F,v,σ,h1,h2⟩:=h;exact h1.kExt k
theorem y2v{nm:List UInt8}(h:LgP E w0 w g gl c s l xs sure AllS K)(hf:q0F Prod.fst [110,101,119] l=none)(hm:l.length<400)(hr:(t.length:Int)<=c+(q1b E:Int)-(q1R l:Int))(ht:t.length<=4096)(hk:q1t nm=true)(V:[110,101,119]≠nm)(X:nm.length<=1000):
  Calls Tryz.prog 257 #[.pointer (some ⟨g,0,none⟩),.string ⟨nm.toArray⟩,.string ⟨t.toArray⟩] w fun e w'=>e= .returned (.int .i64 0)/\LgP E w0 w' g gl c s (q1K Prod.fst (nm,t) (delN Prod.fst [110,101,119] (delN Prod.fst nm (q1K Prod.fst ([110,101,119],t) l)))) xs sure AllS K/\Stay K w w':=by
 obtain⟨j,q⟩: ∃j,((w.alloc (.cells #[.pointer (some ⟨g,0,none⟩)] 31)).alloc (.cells #[.string ⟨nm.toArray⟩] 9)).alloc (.cells #[.string ⟨t.toArray⟩] 9)=j:=⟨_,rfl⟩
 have b0:Hd (Ext w j):=η (by rw[<-q];exact q8M w _ _ _);have N:Hd (∀W,Ext j W->W.cell? ⟨w.heap.size,0,none⟩=some (.pointer (some ⟨g,0,none⟩))/\W.cell? ⟨w.heap.size+1,0,none⟩=some (.string ⟨nm.toArray⟩)/\W.cell? ⟨w.heap.size+1+1,0,none⟩=some (.string ⟨t.toArray⟩)):=η fun W Z=>by
  rw[<-q] at Z;have b1:=(((Blk.new w 31 #[.pointer (some ⟨g,0,none⟩)]).ext (q1x _ (.cells #[.string ⟨nm.toArray⟩] 9) (.cells #[.string ⟨t.toArray⟩] 9))).ext Z).cell 0;have b2:=(((Blk.new (w.alloc (.cells #[.pointer (some ⟨g,0,none⟩)] 31)) 9 #[.string ⟨nm.toArray⟩]).ext (q0C _ (.cells #[.string ⟨t.toArray⟩] 9))).ext Z).cell 0;have b3:=((Blk.new ((w.alloc (.cells #[.pointer (some ⟨g,0,none⟩)] 31)).alloc (.cells #[.string ⟨nm.toArray⟩] 9)) 9 #[.string ⟨t.toArray⟩]).ext Z).cell 0;rw[ρ] at b2;rw[ρ,ρ] at b3;exact⟨b1,b2,b3⟩
 have f0:Hd (j.heap.size=w.heap.size+1+1+1):=η (by rw[<-q];simp);have HK:=η h;have HF:=η hf;have HM:=η hm;have HR:=η hr;have HT:=η ht;have e0:=η hk;have c0:=η V;have d0:=η X;have k0: ∀(fn:Fn) (first cap:Array Value) (w:World),(Instr.makeFunc fn first cap).run Tryz.prog w= .ok (.func fn first cap) w:=fun _ _ _ _=>rfl
 clear h hf hm hr ht hk V X;go_enter Tryz.func257,Tryz.ntmps257;obtain⟨a0,a1,a2⟩:=N.o j (Ext.refl _);go_wp2_with fail
 try rw[q]
 clear q a0 a1 a2
 obtain⟨cs, d⟩: ∃cs:Array Value,#[Value.func (Fn.func 307) #[] #[Value.pointer (some ⟨w.heap.size,0,none⟩)],Value.func (Fn.func 308) #[] #[Value.pointer (some ⟨w.heap.size,0,none⟩),Value.pointer (some ⟨w.heap.size+1+1,0,none⟩)],
       Value.func (Fn.func 309) #[] #[Value.pointer (some ⟨w.heap.size,0,none⟩)],Value.func (Fn.func 310) #[] #[Value.pointer (some ⟨w.heap.size,0,none⟩),Value.pointer (some ⟨w.heap.size+1,0,none⟩)]]=cs:=⟨_,rfl⟩
 rw[d];obtain⟨J,x⟩: ∃J,j.alloc (.cells cs 90)=J:=⟨_,rfl⟩
 have I:Ext j J:=by rw[<-x];exact q0C _ _
 have j0:J.heap.size=j.heap.size+1:=by rw[<-x];simp
 have i0:=f0.o;have y:Blk J j.heap.size 90 cs:=by rw[<-x];exact Blk.new _ _ _
 rw[x];have O:=η (b0.o.trans I);have hK':=HK.o.more (K':=fun i=>K i\/(w.heap.size<=i/\i<J.heap.size)) O.o (fun i U=>U);have g0:=η (HK.o.kExt O.o);obtain⟨r0,r1,r2⟩:=N.o _ I;have R:=y2u hK' HF.o HM.o HR.o HT.o e0.o c0.o d0.o (b:=j.heap.size) (bd:=w.heap.size) (bn:=w.heap.size+1) (bs:=w.heap.size+1+1) (.inr ⟨by omega,by omega⟩) (.inr ⟨by omega,by omega⟩) (.inr ⟨by omega,by omega⟩) (.inr ⟨by omega,by omega⟩)
  (by rw[y.cell 0,<-d];rfl) (by rw[y.cell 1,<-d];rfl) (by rw[y.cell 2,<-d];rfl) (by rw[y.cell 3,<-d];rfl) r0 r1 r2
 have M:=η R;clear d x y I j0 i0 r0 r1 r2 hK' R;refine M.o.mono ?_;rintro e w3 ⟨rfl,h3,G⟩;have H3:=η (h3.beside (K':=K) fun i U=> .inl U);have h0:Hd (Stay K w w3):=η (g0.o.trans fun i U=>G i (.inl U));clear h3 G M;go_wp2_with fail;go_ret;exact⟨rfl,H3.o,h0.o⟩
end
section
variable {E :Oth}{w0 w:World}{g gl:Nat}{F K:Nat->Prop}{v:Value}{σ:DM}{c s sure:Int}{C D:Cks}{xs:List Int}{l:List (List UInt8×List UInt8)}{t:List UInt8}
theorem LgP.oth(h:LgP E w0 w g gl c s l xs sure Q K):okOth E:=by obtain⟨_,_,_,_,b,_⟩:=h;exact b
theorem z9Q(q:okOth E)(x:D.length<=200):delN Prod.fst (q0B 99 (D.length:Int)) (q4C E D t)=q2i E D:=by
 have h1:delN Prod.fst (q0B 99 (D.length:Int)) E.X=E.X:=List.filter_eq_self.2 fun y d=>by have:=q.neX (k:=D.length) (by omega) y d;simpa using this
 have h2:delN Prod.fst (q0B 99 (D.length:Int)) (q3e 0 D)=q3e 0 D:=List.filter_eq_self.2 fun y d=>by have:=q3w (C:=D) (i:=0) (k:=D.length) (by omega) (by omega) (fun j _ h2=>by omega) y d;simpa using this
 have h3:delN Prod.fst (q0B 99 (D.length:Int)) E.Z=E.Z:=List.filter_eq_self.2 fun y d=>by have:=q.neZ (k:=D.length) (by omega) y d;simpa using this
 have o: ∀a b:List (List UInt8×List UInt8),delN Prod.fst (q0B 99 (D.length:Int)) (a++b)=delN Prod.fst (q0B 99 (D.length:Int)) a++delN Prod.fst (q0B 99 (D.length:Int)) b:=fun a b=>List.filter_append _ _
 unfold q4C q2i;rw[o,o,h1,h2,show((q0B 99 (D.length:Int),t)::E.Z)=[(q0B 99 (D.length:Int),t)]++E.Z from rfl,o,h3];unfold delN;simp
theorem y1w(h:LgP E w0 w g gl c s (q4C E D t) xs sure AllS K)(X:D.length<=199):
  Calls Tryz.prog 198 #[.pointer (some ⟨gl,0,none⟩),.int .i64 (D.length:Int),.string ⟨t.toArray⟩,.int .i64 0] w fun e w'=>
   e= .returned (.int .i64 0)/\LgP E w0 w' g gl c s (q2i E D) xs sure AllS K/\Stay K w w':=by
 obtain⟨F,v,σ,h1,q,h2,O⟩:=h;have j:=q2u (D.length:Int);have G:=η (fun W=>q4B (D.length:Int) W);obtain⟨σ',hm,b⟩:=h2.delete (q8A q (by omega) t);rw[z9Q q (by omega)] at b;have i:=z5d hm O
 have I:=η (fun (W:World) (k:Ext w W)=>(show Calls Tryz.prog 136 #[.pointer (some ⟨g,0,none⟩),.string ⟨(q0B 99 (D.length:Int)).toArray⟩] W fun e w'=>e= .returned (.int .i64 0)/\DkS W g F σ' w' by
  have:=q5L (h1.d.ext k) (q0B 99 (D.length:Int)) j;rw[hm] at this
  exact this))
 have y:=η h1.l.c0;have N:=η h1;have U:=η (And.intro q (And.intro b i));generalize q0B 99 (D.length:Int)=nm at*;clear h1 h2 q b O i hm j;go_enter Tryz.func198,Tryz.ntmps198;go_wp2_with fail;refine(G.o _).mono ?_;rintro e w1 ⟨rfl,J⟩;have x:=η J;have V:=q0A J y.o;clear J;go_wp2_with fail;refine(I.o _ x.o).mono ?_;rintro e w2 ⟨rfl,R⟩;have h3:=(N.o.grow x.o).disk R;have M:=η h3;clear R h3 V;go_wp2_with fail;go_ret;exact⟨rfl,⟨_,_,σ',M.o.1,U.o⟩,(N.o.kExt x.o).trans M.o.2⟩
theorem y0L{ps:List (List UInt8)}{S r:List UInt8}(h:LgP E w0 w g gl c s (q4C E D S) (q0O D) sure AllS K)(hS:S=q0N D.length ps++r)(hr:0<r.length)(hD:D.length<=199)(hz:S.length<=4096)(ho:q2S Prod.fst (q4C E D S))(O:(q0I ps:Int)+(q0q D:Int)+(S.length:Int)<=c):
  Calls Tryz.prog 198 #[.pointer (some ⟨gl,0,none⟩),.int .i64 (D.length:Int),.string ⟨S.toArray⟩,.int .i64 (q0I ps:Int)] w fun e w'=>
   e= .returned (.int .i64 0)/\LgP E w0 w' g gl c s (q2i E (D++[ps])) (q0O (D++[ps])) sure AllS K/\Stay K w w':=by
 have hE:=h.oth;have x:=q0a D.length ps;have v0:S.length=q0I ps+r.length:=by rw[hS,θ,x]
 have i0:S.take (q0I ps)=q0N D.length ps:=by rw[hS,List.take_append_of_le_length (by omega),Δ (by omega)]
 have l0:12<=q0I ps:=by unfold q0I;omega
 have h0:=z0C hE (by omega:D.length<=200) S;have hm:(q4C E D S).length<400:=by rw[z2t];have:=hE.few;omega
 have j:((q0N D.length ps).length:Int)<=c+(q1b E:Int)-(q1R (q4C E D S):Int):=by rw[z6r,x];push_cast;omega
 have f0:q1t (q0B 99 (D.length:Int))=true:=by rw[q0R (by omega)];simp[q1t,q0b]
 have b0:[110,101,119]≠q0B 99 (D.length:Int):=fun e=>by
  rw[q0R (by omega)] at e;exact absurd (List.cons.inj e).1 (by decide)
 have e0:(q0B 99 (D.length:Int)).length<=1000:=by rw[q0R (by omega),χ,q0b];decide
 have N:=z6p hE (by omega:D.length<=200) (u:=q0N D.length ps) ho;rw[<-y2z] at N
 have n0:=η (fun (W:World) (m0:List Int) (hW:LgP E w0 W g gl c s (q4C E D S) m0 sure AllS K)=>(show Calls Tryz.prog 257 #[.pointer (some ⟨g,0,none⟩),.string ⟨(q0B 99 (D.length:Int)).toArray⟩,.string ⟨(q0N D.length ps).toArray⟩] W fun e w'=>e= .returned (.int .i64 0)/\LgP E w0 w' g gl c s (q2i E (D++[ps])) m0 sure AllS K/\Stay K W w' by
  have:=y2v (t:=q0N D.length ps) hW h0 hm j (by omega) f0 b0 e0;rw[N] at this
  exact this))
 have q:=q4l S (q0I ps:Int) (q0I ps) rfl (by omega);rw[i0] at q;have I:=η q;obtain⟨F,v,σ,h1,_,h2,hQ⟩:=h;have p0:=η (fun W=>q4B (D.length:Int) W);have G:=q0f D;obtain⟨sa,sk,j0⟩:=q0H h1.l.row;rw[G] at j0;subst j0;have b:=h1.l.row;rw[G] at b;have X:=η b;have o0:=η h1.l.c3;have HH:=η h1;have HP:=η (And.intro hE (And.intro h2 hQ));have Z:Hd (q0O D++[(q0I ps:Int)]=q0O (D++[ps])):=η (q2E D ps).symm;obtain⟨z,k0⟩: ∃z:Int,(q0I ps:Int)=z:=⟨_,rfl⟩
 have D0:12<=z:=by omega
 have z4:z<=4096:=by omega
 have x0:(z==0)=false:=by simp;omega
 have C0:decide (z<(S.length:Int))=true:=by simp;omega
 rw[k0] at Z I⊢;have u0:=η G;generalize q0N D.length ps=T at*;generalize q0B 99 (D.length:Int)=nm at*;have B0:D.length<=199:=hD;generalize hn:D.length=n at*;clear h1 h2 hE hQ x G b k0 l0 f0 hn hS v0 i0 h0 hm O j b0 e0 N q ho hr hD hz;go_enter Tryz.func198,Tryz.ntmps198;go_wp2_with fail;refine(p0.o _).mono ?_;rintro e w1 ⟨rfl,U⟩;have HB:=η U;have c3:=q0A U o0.o;have V:=η (HH.o.grow U);have b:=q0J X.o U;have s0:=η b;have z3:=(HH.o.grow U).l.blk.free 3;clear U b
 go_wp2_with (at_builtin;refine q0P rfl _ _ 37 rfl 0 3 _ 1 8 Tryz.underlying37 Tryz.infoI (by decide) (by decide) _ n _ rfl (q0J s0.o (q0C _ _)) _ 1 1 [.int .i64 z] rfl rfl (fun h=>by cases h) (Rd.lit _ _ _) (by simp[Value.oneCell']) (by unfold maxLen;omega) (by omega) (υ _) ?_;intro v' w2 i d M;have A0:=η i;have z0:=η d;have y0:=η M;obtain⟨_,q2,q3⟩:=V.o.pushed (q0C _ _) d;obtain⟨a',k',rfl⟩:=q0H i;have g0:=V.o.push (q0C _ _) (by rw[u0.o];exact i) d M;have y:=η g0;clear i d M g0)
 obtain⟨R,a0⟩: ∃R,w2.setCell ⟨gl,3,none⟩ (.slice a' (n+1) k')=R:=⟨_,rfl⟩
 rw[a0] at y⊢;have J:LgP E w0 R g gl c s (q4C E D S) (q0O (D++[ps])) sure AllS K:=⟨_,_,σ,by rw[<-Z.o];exact y.o.1,HP.o⟩
 have r0:=η (J.grow (Ext.refl R).drew);have d0:=q0A (Ext.refl R).drew y.o.1.l.c0;have q0:=η (J.kExt (Ext.refl R).drew);have q:=I.o;clear a0 J q2 q3 c3 z3
 go_region_held3 (fun W=>W.cell? ⟨gl,0,none⟩=some (.pointer (some ⟨g,0,none⟩)))
  (first|exact t0.o|exact d0)
  (first|(go_at_call 257;refine(n0.o _ _ r0.o).mono ?_;rintro e wb ⟨rfl,h2,h3⟩;have H2:=η h2;have H3:=η h3;have t0:=η (by obtain⟨_,_,_,h1,_⟩:=h2;exact h1.l.c0:wb.cell? ⟨gl,0,none⟩=some (.pointer (some ⟨g,0,none⟩)));clear h2 h3))
 all_goals
  go_wp2_with fail;go_ret;exact⟨rfl,H2.o,(HH.o.kExt HB.o).trans (y.o.2.trans (q0.o.trans H3.o))⟩
theorem z8U{S:List UInt8}{en:Int}{l':List (List UInt8×List UInt8)}{m0:List Int}(h:LgP E w0 w g gl c s (q4C E D S) [] sure AllS K)(hD:D.length<=199)(j0: ∀ps∈D,q0I ps<=4096)(J: ∀ps∈D,∀p∈ps,p.length<=2000)(hS:S.length<=4096)
  (x: ∀W,Calls Tryz.prog 163 #[.string ⟨S.toArray⟩,.int .i64 (D.length:Int)] W fun e w'=> ∃v,e= .returned (.tuple #[v,.int .i64 en,.bool true])/\(∃ao k c,v= .slice ao k c)/\Ext W w')
  (h0: ∀W,LgP E w0 W g gl c s (q4C E D S) (q0O D) sure AllS K->Calls Tryz.prog 198 #[.pointer (some ⟨gl,0,none⟩),.int .i64 (D.length:Int),.string ⟨S.toArray⟩,.int .i64 en] W fun e w'=>e= .returned (.int .i64 0)/\LgP E w0 w' g gl c s l' m0 sure AllS K/\Stay K W w'):
  Calls Tryz.prog 139 #[.pointer (some ⟨gl,0,none⟩),.int .i64 ((D.length:Int)+1)] w fun e w'=>e= .returned (.int .i64 0)/\LgP E w0 w' g gl c s l' m0 sure AllS K/\Stay K w w':=by
 have hE:=h.oth;have HK:=η h;have o0:=η h0;have Z:=η x;have r0:=η j0;have V:=η J;clear h x h0 j0 J;go_enter Tryz.func139,Tryz.ntmps139;go_wp2_with fail
 go_loopw [10] (fun i W=> ∃k:Nat,k<=D.length/\i= .int .i64 (k:Int)/\LgP E w0 W g gl c s (q4C E D S) (q0O (D.take k)) sure AllS K/\Stay K w W) (fun i _=>D.length+1-(intOf i).toNat)
 case atStart=>exact⟨0,υ _,rfl,HK.o,Stay.refl _ _⟩
 case round=>
  obtain⟨k,hk,rfl,hl,R⟩:=hrel;have b0:=η R;have hd:decide ((k:Int)<(D.length:Int)+1)=true:=by simp;omega
  have C0:IntKind.i64.wrap ((D.length:Int)+1-1)=(D.length:Int):=by rw[ν];omega
  have c0:=(by obtain⟨_,_,_,h1,_⟩:=hl;exact h1.l.c0:wr.cell? ⟨gl,0,none⟩=some (.pointer (some ⟨g,0,none⟩)))
  by_cases g0:k<D.length
  ·obtain⟨ps,j⟩: ∃ps,D[k]? =some ps:=⟨D[k],γ g0⟩
   have u0:q0I ps<=4096:=r0.o ps (List.mem_of_getElem? j);have l0:12<=q0I ps:=by unfold q0I;omega
   have I:=q0a k ps
   have G:=η (z7o (n:=k) (en:=(q0I ps:Int)) hl (by omega) (z6q hE (by omega) S j) (by omega) fun W=>by
    have x:=z5A (q0N k ps) k W (by omega) (by omega) (q6x k ps);rw[q5z k ps (V.o ps (List.mem_of_getElem? j)),q5r] at x;refine x.mono ?_;rintro e w' ⟨v,rfl,hr,hx⟩;obtain⟨a,cc,rfl⟩:=q0H hr
    exact⟨_,rfl,⟨_,_,_,rfl⟩,hx⟩)
   have hT:=z5D j;have d0:(D.take k).length=k:=by rw[Θ];omega
   have t0:((q0N k ps).length:Int)=(q0I ps:Int):=by rw[I]
   have a0:Hd (q0O (D.take k)++[(q0I ps:Int)]=q0O (D.take (k+1))):=η (by rw[hT,q2E]);have s0:((k:Int)==(D.length:Int))=false:=by simp;omega
   obtain⟨z,hz⟩: ∃z:Int,(q0I ps:Int)=z:=⟨_,rfl⟩
   have D0:12<=z:=by omega
   have z4:z<=4096:=by omega
   have x0:(z==0)=false:=by simp;omega
   have B0:(q0N k ps).length<=4096:=by omega
   rw[hz] at t0 a0 G;have n0:=η d0;generalize q0N k ps=S2 at*;clear hl R j I hT d0 hz u0 l0;go_wp2_with fail;refine G.o.mono ?_;rintro e w2 ⟨rfl,h2,h3⟩;have H3:=η (b0.o.trans h3);obtain⟨F2,v2,v0,h4,e0,h5,f0⟩:=h2;have y:=q0f (D.take k);rw[n0.o] at y;obtain⟨sa,sk,k0⟩:=q0H h4.l.row;rw[y] at k0;subst k0;have q:=h4.l.row;rw[y] at q;have p0:=η q;have c3:=h4.l.c3;have z3:=h4.l.blk.free 3;have U:=η h4;have H5:=η (And.intro e0 (And.intro h5 f0));have q0:=η y;clear e0 h3 h4 h5 f0 y q c0
   go_wp2_with (at_builtin;refine q0P rfl _ _ 37 rfl 0 3 _ 1 8 Tryz.underlying37 Tryz.infoI (by decide) (by decide) _ k _ rfl (q0J p0.o (q0C _ _)) _ 1 1 [.int .i64 z] rfl rfl (fun h=>by cases h) (Rd.lit _ _ _) (by simp[Value.oneCell']) (by unfold maxLen;omega) (by omega) (υ _) ?_;intro v' w3 d b M;have A0:=η d;have z0:=η b;have y0:=η M;obtain⟨_,q2,q3⟩:=U.o.pushed (q0C _ _) b;obtain⟨a',k',rfl⟩:=q0H d;have i0:=U.o.push (q0C _ _) (by rw[q0.o];exact d) b M;have X:=η i0;clear d b M i0)
   go_roundw
   case rel=>exact⟨k+1,by omega,by go_num,⟨_,_,v0,by rw[<-a0.o];exact X.o.1,H5.o⟩,H3.o.trans X.o.2⟩
   case measure=>simp[intOf];omega
  ·have N:k=D.length:=by omega
   have O:=z7o (n:=D.length) hl (by omega) (q8A hE (by omega) S) hS Z.o;rw[N,List.take_length] at O;rw[N] at hd⊢;have G:=η O;have s0:((D.length:Int)==(D.length:Int))=true:=by simp
   clear hl R O g0 N;go_wp2_with fail;refine G.o.mono ?_;rintro e w2 ⟨rfl,h2,h3⟩;have H2:=η (o0.o _ h2);have H3:=η (b0.o.trans h3);clear h2 h3;go_wp2_with fail;refine H2.o.mono ?_;rintro e w3 ⟨rfl,h2,h3⟩;have H4:=η h2;have H5:=η (H3.o.trans h3);clear h2 h3;go_wp2_with fail;go_ret;exact⟨rfl,H4.o,H5.o⟩
end
section
variable {wb w w1 w2:World}{g gx gl gm gt:Nat}{st:IxSt}{F Y K:Nat->Prop}{σ σ':DM}{c s sure:Int}{φ:Fls}{u cnt:Nat}{B:List En}{v:Value}
theorem IxK.thru(h:IxK wb w g gx st σ K){n:Int}{e:TE}(he:st.t n=some e): ∀x∈e.L,e.may x.1=true:=by
 obtain⟨F,gm,gt,Y,h1⟩:=h;exact(h1.tb he).t.thru
theorem z4W(h:PInv st σ c s φ u cnt B)(x a:Int): ∀(ns:List Int) (out:Int) (k0:Nat),-1<=out->(∀n∈ns,n∈st.m.L.flatten)->
  ∃k r,q3N st x (min a 1073741824) (tellN k0 σ) ns out=(r,0,tellN k σ)/\out<=r/\(∀n∈ns,z6W (TL st n) x (min a 1073741824)<=r)/\(r=out\/ ∃n∈ns,r=z6W (TL st n) x (min a 1073741824))
 |[],out,k0,_,_=>⟨k0,out,by rw[q3N],Int.le_refl _,(fun n o=>by cases o),.inl rfl⟩
 | n :: ns, out,k0,ho,o=>by
  obtain⟨e,he⟩:=h.full n (o n (by simp));have j:=h.tb n e he;obtain⟨k,_,_,b⟩:=y0G ((h.wl he).tellN k0) j.2.2.2.1.sort j.2.2.2.1.ok j.2.2.2.2 x (min a 1073741824);rw[show min (min a 1073741824) 1073741824=min a 1073741824 by omega] at b;have i: ∃z,z6W (TL st n) x (min a 1073741824)=z/\(∃y ok,q3k (tellN k0 σ) n e.L e.may x (min a 1073741824)=(y,ok,0,tellN (k0+k) σ)/\(if ok then max out y.2.1 else out)=max out z):=by
   rw[q3b he];by_cases I:min a 1073741824<0
   ·rw [ξ I] at b
    have q:z6W e.L x (min a 1073741824)= -1:=by
     have h1:=q7h j.2.2.2.1.sort x (min a 1073741824);rcases h1.2 with h2|⟨y,N,_,h3,h4⟩
     ·exact h2
     ·have:=j.2.2.2.1.ok y N
      unfold q3Z at this;simp at this;omega
    refine⟨-1,q,en0,false,by rw[b];simp only;rw[q3q],?_⟩;rw[κ (by decide)];omega
   ·rw [κ I] at b
    unfold z6W
    cases hl:q3S e.L x (min a 1073741824) with
    | none=>
     rw[hl] at b;refine⟨-1,rfl,en0,false,by rw[b];simp only;rw[q3q],?_⟩;rw[κ (by decide)];omega
    | some y=>
     rw[hl] at b;exact⟨y.2.1,rfl,y,true,by rw[b];simp only;rw[q3q],by rw[ξ rfl]⟩
  obtain⟨z,q,y,ok,G,hmx⟩:=i;obtain⟨O,r,h2,h3,h4,d⟩:=z4W h x a ns (max out z) (k0+k) (by omega) (fun m hm=>o m (by simp[hm]));refine⟨O,r,?_,by omega,fun m hm=>?_,?_⟩
  ·rw[q3N,he]
   simp only;rw[G];simp only;rw[κ (fun h=>h rfl),hmx,h2]
  ·rcases List.mem_cons.1 hm with J|hm
   ·rw[J,q];omega
   ·exact h4 m hm
  ·rcases d with d|⟨m,hm,d⟩
   ·rcases Int.le_total out z with M|M
    ·exact .inr ⟨n,by simp,by rw[d,q];omega⟩
    ·exact .inl (by rw[d];omega)
   ·exact .inr ⟨m,by simp[hm],d⟩
theorem PInv.lastIs(h:PInv st σ c s φ u cnt B)(x a:Int): ∃k r,q3N st x (min a 1073741824) σ st.m.L.flatten (z6W st.w x (min a 1073741824))=(r,0,tellN k σ)/\z3s B x (min a 1073741824) r:=by
 have j:=q7h h.okw.sort x (min a 1073741824);have q: -1<=z6W st.w x (min a 1073741824):=by
  rcases j.2 with e|⟨y,b,_,_,h4⟩
  ·omega
  ·have:=h.okw.ok y b
   unfold q3Z at this;simp at this;omega
 obtain⟨k,r,h1,h2,h3,h4⟩:=z4W h x a st.m.L.flatten _ 0 q (fun n G=>G);refine⟨k,r,h1,fun y b d i=>?_,?_⟩
 ·rcases(h.mem y).1 b with o|⟨n,e,he,o⟩
  ·have:=j.1 y o d i;omega
  ·have J:=(q7h (h.tb n e he).2.2.2.1.sort x (min a 1073741824)).1 y o d i
   have N:=h3 n (h.tb n e he).1;rw[q3b he] at N;omega
 ·rcases h4 with e|⟨n,G,e⟩
  ·rcases j.2 with M|⟨y,b,d,i,J⟩
   ·exact .inl (by omega)
   ·exact .inr ⟨y,(h.mem y).2 (.inl b),d,i,by omega⟩
  ·obtain⟨I,he⟩:=h.full n G
   rw[q3b he] at e;rcases(q7h (h.tb n I he).2.2.2.1.sort x (min a 1073741824)).2 with M|⟨y,b,d,i,J⟩
   ·exact .inl (by omega)
   ·exact .inr ⟨y,(h.mem y).2 (.inr ⟨n,I,he,b⟩),d,i,by omega⟩
end
section
variable {w w':World}{t g gx gm gt:Nat}{n:Int}{L:List En}{may:Int->Bool}{T Y:Nat->Prop}{st:IxSt}{v:Value}{vs:List Value}{vm:Value}{D:DataW Unit}{nn:Nat}
theorem z3N{i:Nat}(h:i<w.heap.size)(e:w'.heap[i]? =w.heap[i]?):i<w'.heap.size:=by
 rw[Array.getElem?_eq_getElem h] at e;exact(Array.getElem?_eq_some_iff.1 e).1
theorem Tb.stay(h:Tb w t g n L may T)(k: ∀i,T i->w'.heap[i]? =w.heap[i]?):Tb w' t g n L may T:=by
 obtain⟨v,p,s,mv,D,h1,h2,h3,h4,d,j⟩:=h;exact⟨v,p,s,mv,D,h1.same fun i b=>k i (d i b),h2,h3,h4,d,fun i b=>z3N (j i b) (k i b)⟩
theorem IxI.stay(h:IxI w gx g gm gt st v vs vm D nn Y)(k: ∀i,InX gx gm gt i\/Y i->w'.heap[i]? =w.heap[i]?):IxI w' gx g gm gt st v vs vm D nn Y:=
 ⟨h.blk.same (k _ (.inl (.inl rfl))),h.mem.same fun i b=>b.elim (fun e=>k i (.inl (.inr (.inl e)))) fun e=>k i (.inr (h.inY i (.inr (.inr e)))),
  q3U h.lev fun i b=>k i (.inr (h.inY i (b.elim .inl fun e=> .inr (.inl e)))),q2I h.map (k _ (.inl (.inr (.inr rfl)))),h.cnt,h.look,
  fun n e d=>(h.tab n e d).stay fun i b=>k i (.inr b),h.inY,fun i b=>z3N (h.lt i b) (k i (.inr b)),h.apart,h.ne⟩
theorem IxY.stay(h:IxY w gx g gm gt st Y)(k: ∀i,InX gx gm gt i\/Y i->w'.heap[i]? =w.heap[i]?):IxY w' gx g gm gt st Y:=by
 obtain⟨b,v,vs,vm,D,nn,h1⟩:=h;exact⟨b,v,vs,vm,D,nn,h1.stay k⟩
end
def IXG(wb W:World)(g gx gl:Nat)(rate:Nat)(m:Man)(ws:List En)(c s:Int)(u cnt:Nat)(B:List En)(C:Cks)(sure:Int)(K:Nat->Prop):Prop:=
 ∃st σ φ gv,st.m=m/\st.w=ws/\st.rate=rate/\st.c<=cnt/\IxK wb W g gx st σ (fun i=>K i\/q7r gl gv i)/\(PInv st σ c s φ u cnt B/\q6B φ m/\z9E st φ σ C sure)/\(LogM W gl g s gv (q0O C) sure/\okC C)/\(∀i,q7r gl gv i->¬K i/\wb.heap.size<=i)
section
variable {wb W W':World}{g gx gl rate:Nat}{m:Man}{ws:List En}{c s:Int}{u cnt:Nat}{B:List En}{C C':Cks}{sure:Int}{K K':Nat->Prop}
theorem IXG.base(h:IXG wb W g gx gl rate m ws c s u cnt B C sure K):Ext wb W:=by obtain⟨st,σ,φ,d,h1,h2,h3,h4,b,i,j,o⟩:=h;exact b.base
theorem IXG.grow(h:IXG wb W g gx gl rate m ws c s u cnt B C sure K)(k:Ext W W'):IXG wb W' g gx gl rate m ws c s u cnt B C sure K:=by
 obtain⟨st,σ,φ,d,h1,h2,h3,h4,i,j,b,o⟩:=h;exact⟨st,σ,φ,d,h1,h2,h3,h4,i.grow k,j,⟨b.1.ext k,b.2⟩,o⟩
theorem IXG.kExt(h:IXG wb W g gx gl rate m ws c s u cnt B C sure K)(k:Ext W W'):Stay K W W':=by
 obtain⟨st,σ,φ,j,h1,h2,h3,h4,b,o,q,x⟩:=h;exact fun i d=>b.kExt k i (.inl d)
theorem IXG.klt(h:IXG wb W g gx gl rate m ws c s u cnt B C sure K): ∀i,K i->i<W.heap.size:=by
 obtain⟨st,σ,φ,d,h1,h2,h3,h4,⟨F,gm,gt,Y,q⟩,j,o,x⟩:=h;exact fun i b=>(q.k i (.inl b)).1
theorem IXG.mono(h:IXG wb W g gx gl rate m ws c s u cnt B C sure K){u' cnt':Nat}(q:u<=u')(hc:cnt<=cnt'):IXG wb W g gx gl rate m ws c s u' cnt' B C sure K:=by
 obtain⟨st,σ,φ,d,h1,h2,h3,h4,i,b,j,o⟩:=h;exact⟨st,σ,φ,d,h1,h2,h3,by omega,i,⟨b.1.mono q hc,b.2⟩,j,o⟩
theorem IXG.more(h:IXG wb W g gx gl rate m ws c s u cnt B C sure K)(k:Ext W W')(hK: ∀i,K' i->K i\/(W.heap.size<=i/\i<W'.heap.size)):IXG wb W' g gx gl rate m ws c s u cnt B C sure K':=by
 obtain⟨st,σ,φ,q,h1,h2,h3,h4,x,y,j,o⟩:=h;refine⟨st,σ,φ,q,h1,h2,h3,h4,x.more k (fun i b=>?_),y,⟨j.1.ext k,j.2⟩,fun i b=>⟨fun G=>?_,(o i b).2⟩⟩
 ·rcases b with b|b
  ·exact(hK i b).imp .inl id
  ·exact .inl (.inr b)
 ·rcases hK i G with d|⟨d,_⟩
  ·exact(o i b).1 d
  ·have:=j.1.lt b;omega
theorem IXG.beside(h:IXG wb W g gx gl rate m ws c s u cnt B C sure K)(k: ∀i,K' i->K i):IXG wb W g gx gl rate m ws c s u cnt B C sure K':=by
 obtain⟨st,σ,φ,j,h1,h2,h3,h4,o,q,x,d⟩:=h;exact⟨st,σ,φ,j,h1,h2,h3,h4,o.beside (fun i b=>b.imp (k i) id),q,x,fun i b=>⟨fun y=>(d i b).1 (k i y),(d i b).2⟩⟩
theorem IXG.sideM(h:IXG wb W g gx gl rate m ws c s u cnt B C sure K)(J:W.heap.size<=W'.heap.size)(M:Ext wb W')(k: ∀i,i<W.heap.size->¬K i->W'.heap[i]? =W.heap[i]?)(hK: ∀i,K' i->K i\/(W.heap.size<=i/\i<W'.heap.size)):
  IXG wb W' g gx gl rate m ws c s u cnt B C sure K':=by
 obtain⟨st,σ,φ,q,h1,h2,h3,h4,x,y,j,o⟩:=h;refine⟨st,σ,φ,q,h1,h2,h3,h4,x.sideM J M (fun i b I=>k i b fun e=>I (.inl e)) (fun i b=>?_),y,⟨j.1.same fun i b=>k i (j.1.lt b) (o i b).1,j.2⟩,fun i b=>⟨fun G=>?_,(o i b).2⟩⟩
 ·rcases b with b|b
  ·exact(hK i b).imp .inl id
  ·exact .inl (.inr b)
 ·rcases hK i G with d|⟨d,_⟩
  ·exact(o i b).1 d
  ·have:=j.1.lt b;omega
theorem IXG.man(h:IXG wb W g gx gl rate m ws c s u cnt B C sure K):m.ok:=by obtain⟨st,σ,φ,d,rfl,h2,h3,h4,i,b,j,o⟩:=h;exact b.1.man
theorem IXG.okB(h:IXG wb W g gx gl rate m ws c s u cnt B C sure K):okM B/\okM ws/\ws.length<=B.length:=by obtain⟨st,σ,φ,d,rfl,rfl,h3,h4,i,b,j,o⟩:=h;exact⟨b.1.okB,b.1.okw,b.1.wlen⟩
theorem IXG.cOk(h:IXG wb W g gx gl rate m ws c s u cnt B C sure K):okC C:=by obtain⟨st,σ,φ,d,rfl,rfl,h3,h4,i,j,b,o⟩:=h;exact b.2
theorem y0v{st:IxSt}{σ:DM}{φ:Fls}{N:Value}(h5:IxK wb W g gx st σ (fun i=>K i\/q7r gl N i))(V:PInv st σ c s φ u cnt B/\q6B φ st.m/\z9E st φ σ C sure)(X:LogM W gl g s N (q0O C) sure/\okC C)(h8: ∀i,q7r gl N i->¬K i/\wb.heap.size<=i):
  ∃ (E :Oth) (K2:Nat->Prop),LgV E wb W g gl N (c-(q1b E:Int)) s C sure K2/\(∀i,K i->K2 i)/\c-(u:Int)<=c-(q1b E:Int)-(q0q C:Int)/\
   ∀ (W':World) (I:Value) (C':Cks) (o:Int) (d e:Nat),LgV E wb W' g gl I (c-(q1b E:Int)) s C' o K2->Stay K2 W W'->q0q C'<=q0q C+d->C'.length<=C.length+e->
    ∃σ' G,IxK wb W' g gx st σ' (fun i=>K i\/q7r gl I i)/\(PInv st σ' c s G (u+d) (cnt+e) B/\q6B G st.m/\z9E st G σ' C' o)/\(LogM W' gl g s I (q0O C') o/\okC C')/\(∀i,q7r gl I i->¬K i/\wb.heap.size<=i):=by
 obtain⟨F,gm,gt,Y,q⟩:=h5;obtain⟨V,U,O⟩:=V;obtain⟨X,hC⟩:=X;obtain⟨E,e1,e2,e3,e4⟩:=q8i V O.toCksS hC;have M: ∀i,q7r gl N i->¬F i/\¬InX gx gm gt i/\¬Y i:=fun i j=>(q.k i (.inr j)).2
 refine⟨E,fun i=>K i\/InX gx gm gt i\/Y i,⟨F,σ,⟨q.i.d,X,fun i J j=>(M i j).1 J,q.bF,fun i j=>(h8 i j).2,q.ext,fun i j=>?_⟩,e1⟩,fun i j=> .inl j,by omega,?_⟩
 ·rcases j with j|j|j
  ·obtain⟨a,b,_⟩:=q.k i (.inl j)
   exact⟨a,b,fun R=>(h8 i R).1 j⟩
  ·exact⟨q.i.x.xlt i j,fun J=>(q.i.ap i J).1 j,fun R=>(M i R).2.1 j⟩
  ·exact⟨q.i.x.ylt i j,fun J=>(q.i.ap i J).2 j,fun R=>(M i R).2.2 j⟩
 ·rintro W' I C' o d e ⟨F',σ',y,l2⟩ a0 hd he
  obtain⟨G,p1,p2,p3⟩:=V.relog e2 l2 y.d.okD (u':=u+d) (cnt':=cnt+e) (by omega) (by omega);have hm:G mapN=φ mapN:=p3 mapN fun k Z e=>(q2V Z).1 e.symm
  refine⟨σ',G,⟨F',gm,gt,Y,⟨⟨y.d,q.i.x.stay fun i j=>a0 i (.inr j),fun i J=>⟨fun hx=>(y.k i (.inr (.inl hx))).2.1 J,fun hy=>(y.k i (.inr (.inr hy))).2.1 J⟩⟩,y.bF,q.bX,q.bY,y.ext,fun i j=>?_⟩⟩,
   ⟨p1,by unfold q6B;rw[hm];exact U,p2,O.old⟩,⟨y.l,l2.ok⟩,fun i j=>⟨fun Z=>(y.k i (.inl Z)).2.2 j,y.bG i j⟩⟩
  rcases j with j|j
  ·obtain⟨_,_,c1,c2⟩:=q.k i (.inl j)
   obtain⟨a,b,_⟩:=y.k i (.inl j);exact⟨a,b,c1,c2⟩
  ·exact⟨y.l.lt j,fun J=>y.ap i J j,fun hx=>(y.k i (.inr (.inl hx))).2.2 j,fun hy=>(y.k i (.inr (.inr hy))).2.2 j⟩
theorem IXG.log(h:IXG wb W g gx gl rate m ws c s u cnt B C sure K):
  ∃ (E:Oth) (j:Nat->Prop),LgK E wb W g gl (c-(q1b E:Int)) s C sure j/\(∀i,K i->j i)/\c-(u:Int)<=c-(q1b E:Int)-(q0q C:Int)/\
   ∀(W':World) (C':Cks) (b:Int) (d e:Nat),LgK E wb W' g gl (c-(q1b E:Int)) s C' b j->Stay j W W'->q0q C'<=q0q C+d->C'.length<=C.length+e->IXG wb W' g gx gl rate m ws c s (u+d) (cnt+e) B C' b K:=by
 obtain⟨st,σ,φ,gv,rfl,rfl,rfl,h4,y,G,I,J⟩:=h;obtain⟨E,j,R,U,V,X⟩:=y0v y G I J;refine⟨E,j,R.toK,U,V,fun W' C' b d e N q M he=>?_⟩;obtain⟨o,O⟩:=N.toV;obtain⟨σ',x,Z,q2,q3,q4⟩:=X W' o C' b d e O q M he;exact⟨st,σ',x,o,rfl,rfl,rfl,by omega,Z,q2,q3,q4⟩
theorem CksS.kp{φ b:Fls}{σ σ':DM}{k:Int}(h:CksS φ σ C k)(j:Kp σ σ')(d:Fl σ c s φ u cnt)(i:CksIn b C):CksS b σ' C k:=
 ⟨i,h.sr.kp j d.up (by obtain⟨l,h1,_⟩:=d;exact h1.fine),h.le⟩
theorem PInv.tellB{st:IxSt}{σ:DM}{φ:Fls}{d:Int}(h:PInv st σ c s φ u cnt B)(k:Nat)(b:q6B φ m/\z9E st φ σ C d):q6B φ m/\z9E st φ (tellN k σ) C d:=⟨b.1,b.2.toCksS.kp (Kp.tells k σ) h.fl b.2.i,b.2.old⟩
theorem z1O{fr x:Int}{C C':Cks}(o:p.length<=2000)(j:C.length<200)(b:q1O fr C p=(x,r,C')):
  (r=0/\q0q C'<=q0q C+(p.length+24)/\C'.length<=C.length+1)\/(r=60/\x=0/\C'=C/\fr-((p.length:Int)+24)<6000):=by
 unfold q1O at b;rw[κ (by omega)] at b;by_cases d:q4a C p=true
 ·rw [ξ d] at b
  split at b
  ·injection b with h1 b
   injection b with h2 h3;exact .inr ⟨h2.symm,h1.symm,h3.symm,by omega⟩
  ·injection b with _ b
   injection b with h2 b;subst b;rcases List.eq_nil_or_concat C with e0|⟨D,ps,e0⟩
   ·subst e0;unfold q4a at d;simp at d
   ·rw[List.concat_eq_append] at e0
    subst e0;refine .inl ⟨h2.symm,?_⟩;simp[q0q,q2W];omega
 ·rw [κ d] at b
  split at b
  ·rename_i i
   injection b with h1 b;injection b with h2 h3;exact .inr ⟨h2.symm,h1.symm,h3.symm,by omega⟩
  ·injection b with _ b
   injection b with h2 b;subst b;refine .inl ⟨h2.symm,?_⟩;simp[q0q,q5H];omega
theorem IXG.append(h:IXG wb W g gx gl rate m ws c s u cnt B C sure K)(p:List UInt8)(N:p.length<=2000)(J:C.length<200):
  Calls Tryz.prog 88 #[.pointer (some ⟨gl,0,none⟩),.string ⟨p.toArray⟩] W fun e w'=>
   ((∃f x C' b,q1O f C p=(x,0,C')/\e= .returned (.tuple #[.int .i64 x,.int .i64 0])/\IXG wb w' g gx gl rate m ws c s (u+(p.length+24)) (cnt+1) B C' b K/\sure<=b)\/
    (e= .returned (.tuple #[.int .i64 0,.int .i64 60])/\IXG wb w' g gx gl rate m ws c s u cnt B C sure K/\c-(u:Int)-((p.length:Int)+24)<6000))/\Stay K W w':=by
 obtain⟨E,R,h1,h2,h3,h4⟩:=h.log;have j:=h1.le.2;obtain⟨x,r,C',d⟩: ∃x r C',q1O (c-(q1b E:Int)-(q0q C:Int)) C p=(x,r,C'):=⟨_,_,_,rfl⟩
 refine(z9H h1 p (by omega) d rfl).mono ?_;rintro e w' ⟨rfl,o,q⟩;refine⟨?_,fun i M=>q i (h2 i M)⟩;rcases z1O N J d with⟨rfl,G,I⟩|⟨rfl,rfl,rfl,U⟩
 ·exact .inl ⟨_,x,C',_,d,rfl,h4 _ _ _ _ _ o q G I,by unfold q4T;split;exact j;exact Int.le_refl _⟩
 ·have O:q4T (c-(q1b E:Int)-(q0q C':Int)) sure C' p=sure:=by
   unfold q4T;rw[κ fun y=>by rw[d] at y;exact absurd y.1 (by show ¬(60:Int)=0;decide)]
  rw[O] at o;exact .inr ⟨rfl,h4 _ _ _ 0 0 o q (ι _) (ι _),by omega⟩
theorem IXG.same(h:IXG wb W g gx gl rate m ws c s u cnt B C sure K){f:FuncId}{P:Program}{args:Array Value}{R:Ending->Prop}{b:Int}(hc: ∀E c d,LgK E wb W g gl c s C sure d->Calls P f args W fun e w'=>R e/\LgK E wb w' g gl c s C b d/\Stay d W w'):
  Calls P f args W fun e w'=>R e/\IXG wb w' g gx gl rate m ws c s u cnt B C b K/\Stay K W w':=by
 obtain⟨E,d,h1,h2,h3,h4⟩:=h.log;refine(hc _ _ _ h1).mono ?_;rintro e w' ⟨he,q,j⟩;exact⟨he,h4 _ _ _ 0 0 q j (ι _) (ι _),fun i o=>j i (h2 i o)⟩
theorem IXG.next(h:IXG wb W g gx gl rate m ws c s u cnt B C sure K)(pos:Int)(d: -9223372036854775808<=pos)(i:pos<=9223372036854775807){r:Option (Nat×List UInt8)}(he:q4E C pos=r):
  Calls Tryz.prog 102 #[.pointer (some ⟨gl,0,none⟩),.int .i64 pos] W fun e w'=>e= .returned (z0g r)/\IXG wb w' g gx gl rate m ws c s u cnt B C sure K/\Stay K W w':=
 h.same fun _ _ _ b=>y3f b pos d i he
theorem IXG.read(h:IXG wb W g gx gl rate m ws c s u cnt B C sure K)(pos:Int)(d: -9223372036854775808<=pos)(i:pos<=9223372036854775807)(he:q6X C pos=(p,r)):
  Calls Tryz.prog 181 #[.pointer (some ⟨gl,0,none⟩),.int .i64 pos] W fun e w'=>e= .returned (.tuple #[.string ⟨p.toArray⟩,.int .i64 r])/\IXG wb w' g gx gl rate m ws c s u cnt B C sure K/\Stay K W w':=
 h.same fun _ _ _ b=>y3p b pos d i he
theorem IXG.lflush(h:IXG wb W g gx gl rate m ws c s u cnt B C sure K):
  Calls Tryz.prog 105 #[.pointer (some ⟨gl,0,none⟩)] W fun e w'=>e= .returned (.int .i64 0)/\IXG wb w' g gx gl rate m ws c s u cnt B C (q0Q C sure) K/\Stay K W w':=
 h.same fun _ _ _ b=>y1d b
theorem IXG.add(h:IXG wb W g gx gl rate m ws c s u cnt B C sure K){e:En}(he:q3Z e=true)(M:B.length<50000):
  Calls Tryz.prog 90 #[.pointer (some ⟨gx,0,none⟩),enV e] W fun r w'=>r= .returned (.int .i64 0)/\IXG wb w' g gx gl rate m (q4G e ws) c s u cnt (q4G e B) C sure K/\Stay K W w':=by
 obtain⟨st,σ,φ,y,h1,h2,h3,h4,G,⟨x,b⟩,⟨I,o⟩,J⟩:=h;refine(y3I G he (by have:=x.wlen;omega)).mono ?_;rintro r w' ⟨rfl,j,d⟩;exact⟨rfl,⟨{st with w:=q4G e st.w},σ,φ,y,h1,by rw[<-h2],h3,h4,j,⟨x.add he M,b.1,b.2.toCksS,b.2.old⟩,⟨I.same fun i q=>d i (.inr q),o⟩,J⟩,fun i q=>d i (.inl q)⟩
theorem IXG.tells(h:IXG wb W g gx gl rate m ws c s u cnt B C sure K):Calls Tryz.prog 62 #[.pointer (some ⟨gx,0,none⟩)] W fun e w'=>
  ∃v vs,e= .returned (.agg #[.int .i64 m.nx,.int .i64 m.ck,.int .u64 m.sd,v])/\OGr w' W.heap.size 37 3 v vs m.L/\Ext W w':=by
 obtain⟨st,σ,φ,b,rfl,h2,h3,h4,⟨F,gm,gt,Y,q⟩,d,j,o⟩:=h;exact q8T q.i.x
theorem IXG.range(h:IXG wb W g gx gl rate m ws c s u cnt B C sure K)(x a b:Int)(hl:B.length<=10000):
  Calls Tryz.prog 112 #[.pointer (some ⟨gx,0,none⟩),.int .u64 x,.int .i64 a,.int .i64 b] W fun e w'=>
   ∃ v,e= .returned (.tuple #[v,.int .i64 0])/\IXG wb w' g gx gl rate m ws c s u cnt B C sure (fun i=>K i\/v.ownBlock=some i)/\Stay K W w'/\
    w'.ownsRow W.heap.size 165 3 v (q1A B x (max a 0) (min b 1073741824)).length (ecs (q1A B x (max a 0) (min b 1073741824))):=by
 obtain⟨st,σ,φ,U,h1,h2,h3,h4,V,⟨G,o⟩,⟨N,M⟩,O⟩:=h;obtain⟨k,R,X,Z,r2,r3⟩:=G.rangeIs x a b;refine(y0D V G.full x a b X (fun _=>⟨Z,by show R.flatten.length<=1000000;omega⟩)).mono ?_;rintro e w' ⟨v,rfl,I,q,J⟩;have j:=J rfl;simp only at j;rw[r3] at j;have o:=G.tellB k o;refine⟨v,rfl,⟨st,tellN k σ,φ,U,h1,h2,h3,h4,I.beside (fun i d=>?_),⟨G.tell k,o⟩,⟨N.same fun i d=>q i (.inr d),M⟩,fun i d=>⟨fun y=>?_,(O i d).2⟩⟩,fun i d=>q i (.inl d),j⟩
 ·rcases d with(d|d)|d
  ·exact .inl (.inl d)
  ·exact .inr d
  ·exact .inl (.inr d)
 ·rcases y with y|y
  ·exact(O i d).1 y
  ·have:=(q0p j i y).1;have:=N.lt d;omega
theorem IXG.last(h:IXG wb W g gx gl rate m ws c s u cnt B C sure K)(x a:Int)(O: -9223372036854775808<=a):
  Calls Tryz.prog 104 #[.pointer (some ⟨gx,0,none⟩),.int .u64 x,.int .i64 a] W fun e w'=>
   ∃r,e= .returned (.tuple #[.int .i64 r,.int .i64 0])/\z3s B x (min a 1073741824) r/\IXG wb w' g gx gl rate m ws c s u cnt B C sure K/\Stay K W w':=by
 obtain⟨st,σ,φ,G,h1,h2,h3,h4,I,⟨j,b⟩,⟨J,q⟩,M⟩:=h;obtain⟨k,r,N,R⟩:=j.lastIs x a;refine(y1i I j.full x a O N).mono ?_;rintro e w' ⟨rfl,o,d⟩;have b:=j.tellB k b;exact⟨r,rfl,R,⟨st,tellN k σ,φ,G,h1,h2,h3,h4,o,⟨j.tell k,b⟩,⟨J.same fun i y=>d i (.inr y),q⟩,M⟩,fun i y=>d i (.inl y)⟩
end
section
variable {wb w:World}{g gx gl rate:Nat}{m:Man}{ws:List En}{c s:Int}{u cnt:Nat}{B:List En}{C:Cks}{sure:Int}{K:Nat->Prop}
theorem Stay.trans' {K:Nat->Prop}{w0 w1 w2:World}(h:Stay K w0 w1)(k:Stay K w1 w2):Stay K w0 w2:=fun i b=>(k i b).trans (h i b)
theorem z4u(h :IXG wb w g gx gl rate m ws c s u cnt B C sure K)(P0:Int)(K0:0<=P0)(L0:P0<=9223372036854775807)(hB:B.length+8*(q2O C P0).length<=40000):
  Calls Tryz.prog 144 #[.pointer (some ⟨gx,0,none⟩),.pointer (some ⟨gl,0,none⟩),.int .i64 P0] w fun e w'=>
   ∃ D,IXG wb w' g gx gl rate m (q1Y D ws) c s u cnt (q1Y D B) C sure K/\Stay K w w'/\
    ((z2d m.sd (q2O C P0)=some D/\e= .returned (.int .i64 0))\/(z2d m.sd (q2O C P0)=none/\e= .returned (.int .i64 63))):=by
 have x0:okC C:=h.cOk;have HI:=η h;have HM:=η h.tells;clear h;go_enter Tryz.func144,Tryz.ntmps144;go_wp2_with fail;refine HM.o.mono ?_;rintro e w1 ⟨v,vs,rfl,ho,hx⟩;have D0:=η (HI.o.grow hx);have G0:=η (HI.o.kExt hx);obtain⟨ao,cp,rfl⟩:=ho.own.slice;clear ho hx HM;have Q0: ∀(W:World) (x y z t:Value),(Instr.field 47 (.agg #[x,y,z,t]) 2).run Tryz.prog W= .ok z W:=fun _ _ _ _ _=>rfl
 go_wp2_with fail
 go_loopw [8] (fun p W=> ∃(pos:Int) (D:List En),p= .int .i64 pos/\0<=pos/\pos<=9223372036854775807/\z2d m.sd (q2O C P0)=(z2d m.sd (q2O C pos)).map (D++·)/\D.length+8*(q2O C pos).length<=8*(q2O C P0).length/\
   IXG wb W g gx gl rate m (q1Y D ws) c s u cnt (q1Y D B) C sure K/\Stay K w W) (fun p _=>(q2O C (intOf p)).length)
 case atStart=>exact⟨P0,[],rfl,K0,L0,by simp,by simp,D0.o,G0.o⟩
 case round =>
  obtain⟨pos,D,rfl,q0,q1,h0,g0,d,z0⟩:=hrel;have I:=η h0;have r0:=η g0;have O0:=η d;have v0:=η z0;have G:=d.next pos (by omega) q1 rfl;rw[q9W] at G;have j: ∀r∈q2O C pos,r.1<4096*200/\r.2.length<=2000:=fun r hr=>z7a x0 hr
  have b0: ∀a p R,q2O C pos=(a,p)::R->q2O C ((a:Int)+(p.length:Int)+12)=R:=fun a p R e=>q9X x0 e
  obtain⟨Q,hQ⟩: ∃Q,q2O C pos=Q:=⟨_,rfl⟩
  have HQ:=η hQ;rw[hQ] at G j I r0;clear h0 g0 d z0 hQ
  cases Q with
  | nil=>
   have a0:z0g ([]:List (Nat×List UInt8)).head? = .tuple #[.string ⟨#[]⟩,.int .i64 0,.int .i64 0,.int .i64 4]:=rfl;rw[a0] at G;have HN:=η G;clear G j b0 a0;go_wp2_with fail;refine HN.o.mono ?_;rintro e w2 ⟨rfl,d,O⟩;have d0:=η d;have j0:=η (v0.o.trans' O);clear d O HN;go_wp2_with fail
   (try rw[Exit.noGoto_ret])
   go_ret;exact⟨D,d0.o,j0.o,.inl ⟨by rw[I.o];simp[z2d],rfl⟩⟩
  | cons r R =>
   obtain⟨a,p⟩:=r;have a0:z0g ((a,p)::R).head? = .tuple #[.string ⟨p.toArray⟩,.int .i64 (a:Int),.int .i64 ((a:Int)+(p.length:Int)+12),.int .i64 0]:=rfl;rw[a0] at G;have HN:=η G;obtain⟨ha,M0⟩:=j _ List.mem_cons_self;simp only at ha M0;have J:=η (b0 _ _ _ HQ.o);have HG:=η (fun W=>z6h p W (by omega));clear G j b0 a0;go_wp2_with fail;refine HN.o.mono ?_;rintro e w2 ⟨rfl,d,O⟩;have d0:=η d;have j0:=η (v0.o.trans' O);clear d O HN;go_wp2_with fail;refine(HG.o _).mono ?_;rintro e w3 ⟨⟨y,rfl,hy⟩,hx⟩;have e0:=η (d0.o.grow hx);have t0:=η (j0.o.trans' (d0.o.kExt hx));clear hx HG;obtain⟨gb,Z⟩: ∃gb,q5V p=gb:=⟨_,rfl⟩
   rw[Z] at hy
   cases gb with
   | none=>
    obtain rfl:y= .tuple #[.agg #[.string ⟨#[]⟩,.int .i64 0,.slice none 0 0],.int .i64 10]:=hy;have f0:=η (e0.o.grow (q0C w3 (.cells #[.string ⟨#[]⟩,.int .i64 0,.slice none 0 0] 160)));have l0:=η (t0.o.trans' (e0.o.kExt (q0C w3 (.cells #[.string ⟨#[]⟩,.int .i64 0,.slice none 0 0] 160))));go_wp2_with fail
    (try rw[Exit.noGoto_ret])
    go_ret;exact⟨D,f0.o,l0.o,.inr ⟨by rw[I.o,z2d,Z];rfl,rfl⟩⟩
   | some b =>
    obtain⟨x,rfl,c0⟩:=hy;have m0:=z9v Z;obtain⟨_,_,p3,p4,p5,p6,_⟩:=q1H m0;obtain⟨M,N,rfl⟩:=c0.slice;obtain⟨n,hn⟩: ∃n,b.ev.length=n:=⟨_,rfl⟩
    have i0:Hd (z2d m.sd (q2O C P0)=(z2d m.sd R).map ((D++q0o m.sd a b n)++·)):=η (by
     rw[I.o,z2d,Z,Option.bind_some,hn,Option.map_map]
     congr 1
     funext l
     simp)
    have s0:Hd (∀k,k<n->q3Z (q2x m.sd a b k)=true):=η (fun k hk=>z4M m.sd m0 (by omega) ha);have p0:=η (fun W=>z4V m.sd b.st W (by omega));have o0:=η (fun k=>q8L m.sd a b k);have n0:=η (fun k=>q4Z m.sd a b k);have C0:Hd (∀k:Nat,q2x m.sd a b k=(q2m m.sd b.st,(b.fi:Int)+(k:Int),(a:Int))):=η fun k=>rfl
    generalize q2m m.sd b.st=hh at*;have N0:(q1Y D B).length<=B.length+D.length:=q7b D B;have g0:=r0.o;rw[χ] at g0;rw[hn] at c0 p4 p6⊢;obtain⟨st,fi,ev⟩:=b;simp only at p3 p4 p5 p6 hn;obtain⟨q,hq⟩: ∃q,w3.heap.size=q:=⟨_,rfl⟩
    have X:=q0C w3 (.cells #[.string ⟨st.toArray⟩,.int .i64 (fi:Int),.slice M n N] 160);have U:=η (Blk.new w3 160 #[.string ⟨st.toArray⟩,.int .i64 (fi:Int),.slice M n N]);have f0:=η (e0.o.more (K':=fun i=>K i\/i=w3.heap.size) X (fun i d=>d.imp id fun e=>⟨by omega,by rw[e];exact U.o.lt⟩));have l0:=η (t0.o.trans' (e0.o.kExt X));rw[hq] at U f0;have k0:(w3.alloc (.cells #[.string ⟨st.toArray⟩,.int .i64 (fi:Int),.slice M n N] 160)).cell? ⟨q,0,none⟩=some (.string ⟨st.toArray⟩):=U.o.cell 0;have k2:(w3.alloc (.cells #[.string ⟨st.toArray⟩,.int .i64 (fi:Int),.slice M n N] 160)).cell? ⟨q,2,none⟩=some (.slice M n N):=U.o.cell 2;clear X c0 Z m0 I hn;go_wp2_with fail;refine(p0.o _).mono ?_;rintro e w4 ⟨rfl,rfl⟩;clear p0;generalize w3.alloc (.cells #[.string ⟨st.toArray⟩,.int .i64 (fi:Int),.slice M n N] 160)=w4 at*;go_wp2_with fail
    go_loopw [50] (fun i W=> ∃k:Nat,k<=n/\i= .int .i64 (k:Int)/\IXG wb W g gx gl rate m (q1Y (D++q0o m.sd a ⟨st,fi,ev⟩ k) ws) c s u cnt (q1Y (D++q0o m.sd a ⟨st,fi,ev⟩ k) B) C sure (fun i=>K i\/i=q)/\Stay K w W/\
     Blk W q 160 #[.string ⟨st.toArray⟩,.int .i64 (fi:Int),.slice M n N]) (fun i _=>n-(intOf i).toNat)
    case atStart=>
     refine⟨0,υ _,rfl,?_,l0.o,U.o⟩;rw[show q0o m.sd a ⟨st,fi,ev⟩ 0=[] from rfl,List.append_nil];exact f0.o
    case round=>
     obtain⟨k,hk,rfl,d,O,hb⟩:=hrel;have E0:=η d;have u0:=η O;have A0:=η hb;by_cases J0:k<n
     ·have I0:decide ((k:Int)<(n:Int))=true:=ζ (by omega)
      have y0:(q1Y (D++q0o m.sd a ⟨st,fi,ev⟩ k) B).length<50000:=by
       have h1:=q7b (D++q0o m.sd a ⟨st,fi,ev⟩ k) B;rw[θ,n0.o k] at h1;omega
      have V:=d.add (s0.o k J0) y0
      rw [show∀L,q4G (q2x m.sd a ⟨st,fi,ev⟩ k) (q1Y (D++q0o m.sd a ⟨st,fi,ev⟩ k) L)=q1Y (D++q0o m.sd a ⟨st,fi,ev⟩ (k+1)) L from fun L=>by
       rw[o0.o k,<-List.append_assoc,q3v (D++q0o m.sd a ⟨st,fi,ev⟩ k)];rfl,show∀L,q4G (q2x m.sd a ⟨st,fi,ev⟩ k) (q1Y (D++q0o m.sd a ⟨st,fi,ev⟩ k) L)=q1Y (D++q0o m.sd a ⟨st,fi,ev⟩ (k+1)) L from fun L=>by
       rw[o0.o k,<-List.append_assoc,q3v (D++q0o m.sd a ⟨st,fi,ev⟩ k)];rfl,C0.o k] at V
      have HA:Hd (Calls Tryz.prog 90 #[.pointer (some ⟨gx,0,none⟩),.agg #[.int .u64 hh,.int .i64 ((fi:Int)+(k:Int)),.int .i64 (a:Int)]] wr fun r w'=>r= .returned (.int .i64 0)/\
       IXG wb w' g gx gl rate m (q1Y (D++q0o m.sd a ⟨st,fi,ev⟩ (k+1)) ws) c s u cnt (q1Y (D++q0o m.sd a ⟨st,fi,ev⟩ (k+1)) B) C sure (fun i=>K i\/i=q)/\Stay (fun i=>K i\/i=q) wr w'):=η V
      have q7:IntKind.i64.wrap ((fi:Int)+(k:Int))=(fi:Int)+(k:Int):=by rw[ν];omega
      have q8:IntKind.i64.wrap ((k:Int)+1)=(k:Int)+1:=by rw[ν];omega
      have k1:=hb.cell 1;clear d O hb V y0;go_wp2_with fail;refine HA.o.mono ?_;rintro e w5 ⟨rfl,d,O⟩;have F0:=η d;have H0:=η (u0.o.trans' (fun i d=>O i (.inl d)));have B0:=η (A0.o.same (O q (.inr rfl)));clear d O HA;go_wp2_with fail
      go_roundw
      case rel=>exact⟨k+1,by omega,by go_num,F0.o,H0.o,B0.o⟩
      case measure=>simp[intOf];omega
     ·obtain rfl:k=n:=by omega
      have I0:decide ((k:Int)<(k:Int))=false:=ε (by omega);clear d O hb;go_wp2_with fail
      go_roundw
      case rel=>
       refine⟨(a:Int)+(p.length:Int)+12,D++q0o m.sd a ⟨st,fi,ev⟩ k,rfl,by omega,by omega,?_,?_,E0.o.beside (fun i d=> .inl d),u0.o⟩
       ·rw[J.o];exact i0.o
       ·rw[J.o,θ,n0.o k];omega
      case measure=>
       show(q2O C ((a:Int)+(p.length:Int)+12)).length<(q2O C pos).length;rw[J.o,HQ.o,χ];omega
end
section
variable {wb W W':World}{g gx gl rate:Nat}{m:Man}{ws:List En}{c:Int}{u cnt:Nat}{B:List En}{K K':Nat->Prop}
end
def noI :Nat->Prop:=fun _=>False
section
variable {wb w W W':World}{g gx gl:Nat}{m:Man}{ws:List En}{c s sure:Int}{u cnt:Nat}{B:List En}{K K':Nat->Prop}
end
section
variable {wb w W W':World}{g gx gl rate:Nat}{m:Man}{ws:List En}{c s:Int}{st:IxSt}{σ:DM}{φ:Fls}{u cnt:Nat}{B:List En}{K:Nat->Prop}
theorem z4h(h:PInv st σ c s φ u cnt B): ∀(ns:List Int) (acc:Int->Option (List En)) (k0:Nat),(∀n∈ns,n∈st.m.L.flatten)->
  ∃k,q3n (tellN k0 σ) ns acc=((fun x=>if x∈ns then some (TL st x) else acc x),0,tellN k σ)
 |[],acc,k0,_=>⟨k0,by rw[q3n];simp⟩
 | n ::ns,acc,k0,hn=>by
  obtain⟨e,he⟩:=h.full n (hn n (by simp));have b:=h.tb n e he;obtain⟨k,_,d⟩:=z4f ((h.wl he).tellN k0) b.2.2.2.1.sort b.2.2.2.1.ok (by have:=b.2.2.2.1.len;omega);rw[q3q] at d;obtain⟨j,h2⟩:=z4h h ns (fun x=>if x=n then some e.L else acc x) (k0+k) (fun y i=>hn y (by simp[i]));refine⟨j,?_⟩;rw[q3n,d];simp only;rw[h2]
  congr 1
  funext x
  by_cases h1:x∈ns
  ·rw[ξ h1,ξ (List.mem_cons_of_mem _ h1)]
  ·rw[κ h1]
   by_cases h3:x=n
   ·rw[ξ h3,ξ (by rw[h3];exact List.mem_cons_self),h3,q3b he]
   ·rw[κ h3,κ (by rw[List.mem_cons];exact fun h=>h.elim h3 h1)]
theorem PInv.reopen(h:PInv st σ c s φ u cnt B){t2:Int->Option TE}(k M G:Nat)(y: ∀n,(t2 n).map TE.L=if n∈st.m.L.flatten then some (TL st n) else none)(q: ∀n e,t2 n=some e-> ∀x∈e.L,e.may x.1=true):
  PInv ⟨st.m,M,[],t2,G⟩ (tellN k σ) c s φ u cnt (q3F (st.m.L.flatten.map (TL st))):=by
 have i: ∀n e,t2 n=some e->n∈st.m.L.flatten/\e.L=TL st n:=fun n e he=>by
  have:=y n;rw[he] at this;by_cases b:n∈st.m.L.flatten
  ·rw[ξ b] at this
   injection this with this;exact⟨b,this⟩
  ·rw[κ b] at this
   cases this
 have d: ∀n,n∈st.m.L.flatten-> ∃e,t2 n=some e/\e.L=TL st n:=fun n b=>by
  have:=y n;rw[ξ b] at this
  cases he:t2 n with
  |none=>rw[he] at this;cases this
  |some e=>exact⟨e,rfl,(i n e he).2⟩
 refine⟨Fl.tells k h.fl,h.man,(fun n b=>by obtain⟨e,he,_⟩:=d n b;exact⟨e,he⟩),fun n e he=>?_,h.only,okM.nil,(h.unionLe _).1,fun x=>?_⟩
 ·obtain⟨h1,h2⟩:=i n e he
  obtain⟨e0,j⟩:=h.full n h1;have h3:=h.tb n e0 j;rw[q3b j] at h2;exact⟨h1,by rw[h2];exact h3.2.1,h3.2.2.1,by rw[h2];exact h3.2.2.2.1,q n e he⟩
 ·rw [mem_union]
  constructor
  ·rintro⟨L,I,o⟩
   obtain⟨n,b,rfl⟩:=List.mem_map.1 I;obtain⟨e,he,J⟩:=d n b;exact .inr ⟨n,e,he,by rw[J];exact o⟩
  ·rintro(o|⟨n,e,he,o⟩)
   ·cases o
   ·obtain⟨h1,h2⟩:=i n e he
    exact⟨_,List.mem_map.2 ⟨n,h1,rfl⟩,by rw[<-h2];exact o⟩
theorem PInv.parts(h:PInv st σ c s φ u cnt B)(x:En):x∈B↔x∈st.w\/x∈q3F (st.m.L.flatten.map (TL st)):=by
 rw[h.mem x,mem_union]
 constructor
 ·rintro(b|⟨n,e,he,b⟩)
  ·exact .inl b
  ·exact .inr ⟨_,List.mem_map.2 ⟨n,(h.tb n e he).1,rfl⟩,by rw[q3b he];exact b⟩
 ·rintro(b|⟨L,d,b⟩)
  ·exact .inl b
  ·obtain⟨n,i,rfl⟩:=List.mem_map.1 d
   obtain⟨e,he⟩:=h.full n i;exact .inr ⟨n,e,he,by rw[q3b he] at b;exact b⟩
end
def DKR(wb W:World)(g gl:Nat)(m:Man)(c s:Int)(u cnt:Nat)(B:List En)(C:Cks)(sure:Int)(K:Nat->Prop):Prop:=
 ∃st σ φ gv F,st.m=m/\st.w=[]/\DkF wb W g F σ (fun i=>K i\/q7r gl gv i)/\(PInv st σ c s φ u cnt B/\q6B φ m/\z9E st φ σ C sure)/\(LogM W gl g s gv (q0O C) sure/\okC C)/\(∀i,q7r gl gv i->¬K i/\wb.heap.size<=i)
section
variable {wb w W W':World}{g gx gl rate:Nat}{m:Man}{ws:List En}{c s:Int}{u cnt:Nat}{B:List En}{C C':Cks}{sure:Int}{K K':Nat->Prop}
theorem IXG.forget(h:IXG wb W g gx gl rate m ws c s u cnt B C sure K): ∃o,DKR wb W g gl m c s u cnt o C sure K/\ ∀x,x∈B↔x∈ws\/x∈o:=by
 obtain⟨st,σ,φ,y,rfl,rfl,h3,h4,G,⟨b,j,d⟩,I,J⟩:=h;obtain⟨F,hF⟩:=G.dkf;have q:=b.reopen (t2:=st.t) 0 rate st.c (fun n=>?_) (fun n e he=>(b.tb n e he).2.2.2.2)
 ·rw[show tellN 0 σ=σ from rfl] at q
  exact⟨_,⟨⟨st.m,rate,[],st.t,st.c⟩,σ,φ,y,F,rfl,rfl,hF,⟨q,j,d.toCksS,d.old⟩,I,J⟩,b.parts⟩
 ·by_cases i:n∈st.m.L.flatten
  ·obtain⟨e,he⟩:=b.full n i
   rw[ξ i,he,q3b he];rfl
  ·rw[κ i]
   cases he:st.t n with
   |none=>rfl
   |some e=>exact absurd (b.tb n e he).1 i
theorem DKR.iopen(h:DKR wb W g gl m c s u cnt B C sure K){ao:Option Addr}{cap:Nat}(hG:Grid W ao m.L.length cap m.L)(J:m.L.flatten.length<=cnt)(rate:Nat):
  Calls Tryz.prog 142 #[.pointer (some ⟨g,0,none⟩),.agg #[.int .i64 m.nx,.int .i64 m.ck,.int .u64 m.sd,.slice ao m.L.length cap],.float .f64 rate] W fun e w'=>
   ∃gx O,e= .returned (.tuple #[.pointer (some ⟨gx,0,none⟩),.int .i64 0])/\IXG wb w' g gx gl rate m [] c s u cnt O C sure K/\(∀x,x∈B↔x∈O)/\Stay K W w':=by
 obtain⟨st,σ,φ,X,F,rfl,hw,hF,⟨d,I,j⟩,R,Z⟩:=h;have U:=Man.bounds d.man;refine(z7j (m:=st.m) hF hG (by have:=U.2.1;omega) (fun x N=>(U.2.2.2.1 x N).1) d.man.2.1 d.man.2.2 rate).mono ?_;obtain⟨k,q⟩:=z4h d st.m.L.flatten (fun _=>none) 0 fun n hn=>hn
 have q:q3n σ st.m.L.flatten (fun _=>none)=_:=q;rintro e w' (⟨b,_⟩|⟨_,b,_⟩|⟨_,_,b,_⟩|⟨_,_,_,G,t2,rfl,b,V,y⟩)
 ·rw[d.man.1] at b;cases b
 ·rw[d.fl.up] at b;cases b
 ·rw[q] at b;exact absurd rfl b
 ·rw [q] at b y
  simp only at b y;have o:OldT ⟨st.m,rate,[],t2,st.m.L.flatten.length⟩:=fun n e he x N=>by
   have h:=y n;have he:t2 n=some e:=he;rw[he,Option.map_some] at h;show x.2.2<st.m.ck
   split at h
   ·injection h with h
    exact j.old.tl (n:=n) (by rw[<-h];exact N)
   ·cases h
  exact⟨G,_,rfl,⟨⟨st.m,rate,[],t2,st.m.L.flatten.length⟩,tellN k σ,φ,X,rfl,rfl,rfl,J,b,⟨d.reopen k rate _ y (fun n e he=>b.thru (n:=n) (e:=e) he),I,j.toCksS.kp (Kp.tells k σ) d.fl j.i,o⟩,⟨R.1.same fun i M=>V i (.inr M),R.2⟩,Z⟩,
   fun x=>by rw[d.parts x,hw];simp,fun i M=>V i (.inl M)⟩
end
section
variable {wb w W W':World}{g gx gl rate:Nat}{m:Man}{ws:List En}{c s:Int}{st:IxSt}{σ:DM}{φ:Fls}{u cnt:Nat}{B:List En}{K:Nat->Prop}
theorem z4j(T:List Int):q1p T mapN=false:=by
 unfold q1p;rw[show(mapN==q2J)=false by decide,show(q1L mapN).2.2=false by decide]
 rfl
theorem z2B{T:List Int}{l:UInt8}(i:q2B l=true){n:Int}(o:0<=n/\n<=999999)(j:n∈T):q1p T (q0B l n)=false:=by
 have d:=q1m i o;have b:(q0B l n==q2J)=false:=by
  rw[beq_eq_false_iff_ne];intro e;rw[e] at d;have h1:(q1L q2J).2.2=false:=by decide
  rw[d] at h1
  cases h1
 unfold q1p;rw[b,d];simp only;rw[show((n.toNat:Nat):Int)=n by omega,ζ j];simp
theorem q9g{T:List Int}(d:k<=999999):q1p T (q0B 99 (k:Int))=false:=by
 have i:=q1m y2j (n:=(k:Int)) (by omega);have b:(q0B 99 (k:Int)==q2J)=false:=by
  rw[beq_eq_false_iff_ne];exact(q2V d).2
 unfold q1p;rw[b,i]
 rfl
theorem PInv.names(h:PInv st σ c s φ u cnt B): ∀x∈q1s σ,x=mapN\/(∃n∈st.m.L.flatten,x=q0B 116 n\/x=q0B 98 n)\/ ∃k:Nat,k<=999999/\x=q0B 99 (k:Int):=fun x d=>by
 obtain⟨l,h1,_,h2,_⟩:=h.fl;rw[h1.names] at d;refine h.only x ?_;rw[<-h2 x];obtain⟨y,i,rfl⟩:=List.mem_map.1 d;intro b
 cases hf:q0F Prod.fst y.1 l with
 |some z=>rw[hf] at b;cases b
 |none=>exact q0U hf y i rfl
theorem PInv.noOrph(h:PInv st σ c s φ u cnt B):(q1s σ).filter (q1p st.m.L.flatten)=[]:=by
 refine List.filter_eq_nil_iff.2 fun x i=>?_
 rw[Bool.not_eq_true];rcases h.names x i with rfl|⟨n,b,rfl|rfl⟩|⟨k,d,rfl⟩
 ·exact z4j _
 ·have:=h.range b
  exact z2B z3M ⟨this.1,this.2.1⟩ b
 ·have:=h.range b
  exact z2B (by decide) ⟨this.1,this.2.1⟩ b
 ·exact q9g d
theorem PInv.shortN(h:PInv st σ c s φ u cnt B): ∀x∈q1s σ,x.length<=9223372036854775807:=fun x d=>by
 rcases h.names x d with rfl|⟨n,b,rfl|rfl⟩|⟨k,i,rfl⟩
 ·decide
 ·have:=h.range b
  rw[q0R ⟨this.1,this.2.1⟩,χ,q0b];decide
 ·have:=h.range b
  rw[q0R ⟨this.1,this.2.1⟩,χ,q0b];decide
 ·rw[q0R (by omega),χ,q0b];decide
end
def q7I(m:Man)(ws:List En)(en:Int):Int×Man×List En:=if ws=[] then(0,m,ws) else if (addS m.L m.nx).2≠0 then((addS m.L m.nx).2,m,ws) else(0,m.add (addS m.L m.nx).1 en,[])
theorem z7M{C:Cks}(h:okC C):0<=q1u C/\q1u C<=819200:=by
 rcases List.eq_nil_or_concat C with e0|⟨D,ps,e0⟩
 ·subst e0;rw[z0J];omega
 ·rw[List.concat_eq_append] at e0
  subst e0;rw[q1J];have h1:=h.few;have h2:=h.size ps (by simp);simp at h1;omega
section
variable {φ :Fls}{n:Int}{f tab S:List UInt8}{C:Cks}{m:Man}
theorem z8q :q6d φ n f tab S mapN=some S:=by unfold q6d q5u;rw[ξ rfl]
theorem y0k(b:0<=n/\n<=999999)(d:k<=999999):q6d φ n f tab S (q0B 99 (k:Int))=φ (q0B 99 (k:Int)):=by
 unfold q6d q5u;rw[κ (q2V d).1,κ fun e=>absurd (q3T y2j z3M (by omega) b e).1 (by decide),κ fun e=>absurd (q3T y2j y2i (by omega) b e).1 (by decide)]
theorem CksIn.turn(h:CksIn φ C)(d:0<=n/\n<=999999):CksIn (q6d φ n f tab S) C:=fun k b=>(y0k d b).trans (h k b)
end
section
variable {wb W W':World}{g gx gl rate:Nat}{m:Man}{ws:List En}{c s:Int}{u cnt:Nat}{B:List En}{C C':Cks}{sure:Int}{K K':Nat->Prop}
theorem IXG.flush(h:IXG wb W g gx gl rate m ws c s u cnt B C sure K)(hl:B.length<=1000)(c0:cnt<397)(e0:m.nx<1000000)(j0:m.ck<=q1u C)(g0: ∀x∈ws,x.2.2<q1u C):
  Calls Tryz.prog 107 #[.pointer (some ⟨gx,0,none⟩),.pointer (some ⟨gl,0,none⟩)] W fun e w'=>
   ((e= .returned (.int .i64 (q7I m ws (q1u C)).1)/\IXG wb w' g gx gl rate (q7I m ws (q1u C)).2.1 (q7I m ws (q1u C)).2.2 c s (u+(28*B.length+440)) (cnt+3) B C (q0Q C sure) K)\/
    (e= .returned (.int .i64 60)/\IXG wb w' g gx gl rate m ws c s (u+(28*B.length+440)) (cnt+3) B C (q0Q C sure) K/\c-(u:Int)-(28*(B.length:Int)+440)<6000))/\Stay K W w':=by
 obtain⟨st,σ,φ,o,rfl,rfl,rfl,h4,h5,h6,h7,h8⟩:=h;obtain⟨E,K2,l1,l2,l3,l4⟩:=y0v h5 h6 h7 h8;have m0:=h6.1.wlen;have k0:=z7M h7.2;obtain⟨F,gm,gt,Y,q⟩:=h5;refine(z7h q.i.x (gl:=gl) (en:=q1u C) (wb:=wb) (K:=fun i=>K i\/q7r gl o i) (P:=fun σ1 w1=> ∃d,(PInv st σ1 c s d u cnt B/\q6B d st.m/\z9E st d σ1 C (q0Q C sure))/\(LogM w1 gl g s o (q0O C) (q0Q C sure)/\okC C)/\Stay K W w1) ((z4R l1).mono ?_) ?_ (by omega) (by omega)).mono ?_
 ·rintro e w1 ⟨rfl,k1,k2⟩
  obtain⟨σ',h0,q1,q2,q3,q4⟩:=l4 w1 o C _ 0 0 k1 k2 (ι _) (ι _);exact⟨rfl,σ',q1,h0,q2,q3,fun i hi=>k2 i (l2 i hi)⟩
 ·rintro σ1 w1 W1 ⟨d,R,p2,p3⟩ hx
  exact z7O (p2.1.ext hx) p2.2
 ·rintro e w' ⟨σ1,w1,⟨d,⟨R,pm,N⟩,⟨p2,I⟩,p3⟩,hf⟩
  have G: ∀J,Stay (fun i=>K i\/q7r gl o i) w1 J->Stay K W J/\LogM J gl g s o (q0O C) (q0Q C sure):=fun J hk=>⟨p3.trans fun i hi=>hk i (.inl hi),p2.same fun i hi=>hk i (.inr hi)⟩
  unfold q7I;rcases hf with⟨f1,Z,f3,f4⟩|⟨f1,Z,f3,f4,M⟩|⟨f1,Z,f,f3,f4,M,O⟩
  ·obtain⟨U,V⟩:=G _ f4
   rw[ξ f1];exact⟨.inl ⟨Z,IXG.mono (show IXG wb w' g gx gl st.rate st.m st.w c s u cnt B C (q0Q C sure) K from⟨st,σ1,d,o,rfl,rfl,rfl,h4,f3,⟨R,pm,N⟩,⟨V,I⟩,h8⟩) (by omega) (by omega)⟩,U⟩
  ·obtain⟨U,V⟩:=G _ M
   rw[κ f1,ξ Z];exact⟨.inl ⟨f3,IXG.mono (show IXG wb w' g gx gl st.rate st.m st.w c s u cnt B C (q0Q C sure) K from⟨st,σ1,d,o,rfl,rfl,rfl,h4,f4,⟨R,pm,N⟩,⟨V,I⟩,h8⟩) (by omega) (by omega)⟩,U⟩
  ·rw [κ f1,κ (by rw[Z];decide)]
   obtain⟨X,y⟩: ∃X,(addS st.m.L st.m.nx).1=X:=⟨_,rfl⟩
   have a0:addS st.m.L st.m.nx=(X,0):=by rw[<-y,<-Z]
   have i0:=q3o st.w;have d0:0<=st.m.nx/\st.m.nx<=999999:=by have:=Man.bounds R.man;omega
   have j:=Kp.turn σ1 (st.m.add X (q1u C)) st.m.nx st.w f;rcases R.flush (f:=f) a0 (en:=q1u C) (by omega) e0 c0 with⟨σ',e1,hp⟩|⟨σ',e1,hp,l0⟩
   case inr=>
    rw[y,e1] at M O;rw[e1] at j;simp only at M O j;obtain⟨U,V⟩:=G _ O.2;exact⟨.inr ⟨M,⟨st,σ',d,o,rfl,rfl,rfl,by omega,O.1,⟨hp.mono (by omega) (ι _),pm,N.toCksS.kp j R.fl N.i,N.old⟩,⟨V,I⟩,h8⟩,by omega⟩,U⟩
   rw[y,e1] at M O;rw[e1] at j;simp only at M O j;obtain⟨b,may,g1,g2⟩:=O;obtain⟨U,V⟩:=G _ g2;refine⟨.inl ⟨M,?_⟩,U⟩;rw[y];have b0:OldT {st.put (st.m.add X (q1u C)) st.m.nx ⟨b,st.w,may⟩ with w:=[]}:=fun n e he x hx=>by
    have he:(if n=st.m.nx then some (⟨b,st.w,may⟩:TE) else st.t n)=some e:=he;show x.2.2<q1u C
    split at he
    ·injection he with he
     subst he;exact g0 x hx
    ·have:=N.old n e he x hx;omega
   have f0: ∀x∈st.w,may x.1=true:=g1.thru (n:=st.m.nx) (e:=⟨b,st.w,may⟩) (by unfold IxSt.put;simp);exact⟨{st.put (st.m.add X (q1u C)) st.m.nx ⟨b,st.w,may⟩ with w:=[]},σ',_,o,rfl,rfl,rfl,by show st.c+1<=cnt+3;omega,g1,⟨(hp b may f0).mono (by omega) (ι _),.inl ⟨z8q,by show 0<st.m.nx+1;omega⟩,N.toCksS.kp j R.fl (N.i.turn d0),b0⟩,⟨V,I⟩,h8⟩
end
end
end Go.Proofs.YtfiibpgoplcgkaaGreatDoor
