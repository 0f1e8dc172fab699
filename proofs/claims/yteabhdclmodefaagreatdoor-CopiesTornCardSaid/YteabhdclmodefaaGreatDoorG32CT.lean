/- Plain laws. -/
import Derived.Test.YteabhdclmodefaaGreatDoorG31CT
set_option linter.unusedVariables false
set_option linter.unusedSimpArgs false
set_option maxRecDepth 100000
set_option maxHeartbeats 12800000
namespace Go.Proofs.YteabhdclmodefaaGreatDoor
variable {t:To}{r:List UInt8}{x:En}{k cap:Nat}{ao:Option Addr}{W':World}
section
open Go.RowKit
def markB :List UInt8:=[97,110,110,97,108,105,115,116,10]
def q8G(L:List To)(s:List UInt8):Nat:=(L.filter fun t=>decide (t.s=s)).length
def toB(t:To):List UInt8:=q1f t.s++evB t.e
def cOk(acc:List To)(t:To):Bool:=q1k t.s&&decide (q0Y t.e.ty t.e.da=0)&&decide (t.v=(q8G acc t.s:Int))
def q6P(acc:List To):List To->Bool
 |[]=>true
 |t::r=>cOk acc t&&q6P (acc++[t]) r
def q9x(n:Nat):List UInt8:=markB++be 4 n
def q1d(L:List To):List UInt8:=q9x L.length++(L.map toB).flatten
def q6T(L:List To):List UInt8×Int:=if 1000<L.length then([],3) else if q6P [] L=true then(q0T (q1d L),0) else([],2)
def crd :Nat->List UInt8->List To->Option (List To×List UInt8)
 |0,s,acc=>some (acc,s)
 |n+1,s,acc=>if q7S s=true/\q1k (rdT s)=true/\acc.length≠1000 then(rdE (rdR s)).bind fun x=>crd n x.2 (acc++[⟨rdT s,q8G acc (rdT s),x.1⟩]) else none
def q3j(t:List UInt8):Option (List To×List UInt8):=if t.take 9=markB/\13<=t.length then crd (q1N ((t.drop 9).take 4)) (t.drop 13) [] else none
def q2N(s:List UInt8):List To×Int:=match q3j (q1V s) with
 |some (L,[])=>(L,0)
 |_=>([],10)
theorem z2R(L:List To)(t:To)(s:List UInt8):q8G (L++[t]) s=q8G L s+(if t.s=s then 1 else 0):=by
 unfold q8G;rw[List.filter_append,θ];by_cases h:t.s=s
 ·rw[ξ h];simp[h]
 ·rw[κ h];simp[h]
theorem z2N{acc:List To}(h:cOk acc t=true):q1k t.s=true/\q0Y t.e.ty t.e.da=0/\t.v=(q8G acc t.s:Int):=by
 unfold cOk at h;rw[Ξ,Ξ] at h;exact⟨h.1.1,of_decide_eq_true h.1.2,of_decide_eq_true h.2⟩
theorem y1h{acc:List To}(h1:q1k t.s=true)(h2:q0Y t.e.ty t.e.da=0)(h3:t.v=(q8G acc t.s:Int)):cOk acc t=true:=by
 unfold cOk;rw[h1,ζ h2,ζ h3];rfl
theorem q9X{s:List UInt8}(h:q1k s=true):1<=s.length/\s.length<=32:=by
 unfold q1k at h;rw[Ξ] at h;exact⟨of_decide_eq_true h.1,of_decide_eq_true h.2⟩
theorem y2T{n:Nat}{acc:List To}(r:List UInt8)(h:cOk acc t=true)(i:t.e.we<18446744073709551616)(j:acc.length<1000):crd (n+1) (toB t++r) acc=crd n r (acc++[t]):=by
 obtain⟨h1,h2,h3⟩:=z2N h;obtain⟨a1,b,d⟩:=z1d t.s (evB t.e++r) (by have:=(q9X h1).2;omega);have e:toB t++r=q1f t.s++(evB t.e++r):=by unfold toB;rw[List.append_assoc]
 rw[e,crd,b,d,ξ ⟨a1,h1,by omega⟩,y4Z t.e r ⟨h2,i⟩,Option.bind_some,<-h3]
theorem z7r : ∀(L acc:List To) (r:List UInt8),q6P acc L=true->(∀t∈L,t.e.we<18446744073709551616)->acc.length+L.length<=1000->crd L.length ((L.map toB).flatten++r) acc=some (acc++L,r)
 |[],acc,r,_,_,_=>by simp[crd]
 | t::L,acc,r,h,hw,hl=>by
  rw[q6P,Ξ] at h;rw[χ] at hl;rw[List.map_cons,List.flatten_cons,List.append_assoc,χ,y2T _ h.1 (hw t (.head _)) (by omega),z7r L (acc++[t]) r h.2 (fun x b=>hw x (.tail _ b)) (by rw[θ,List.length_singleton];omega),List.append_assoc]
  rfl
theorem q6Q(n:Nat):(q9x n).length=13:=by unfold q9x;rw[θ,q0F];rfl
theorem q3k{L:List To}(r:List UInt8)(h:q6P [] L=true)(l: ∀t∈L,t.e.we<18446744073709551616)(j:L.length<=1000):q3j (q1d L++r)=some (L,r):=by
 have hc:=q6Q L.length;have e:q1d L++r=q9x L.length++((L.map toB).flatten++r):=by unfold q1d;rw[List.append_assoc]
 have b:(q1d L++r).take 9=markB:=by rw[e];unfold q9x;rw[List.append_assoc,List.take_left' (show markB.length=9 from rfl)]
 have d:((q1d L++r).drop 9).take 4=be 4 L.length:=by rw[e];unfold q9x;rw[List.append_assoc,List.drop_left' (show markB.length=9 from rfl),List.take_left' (q0F 4 _)]
 have i:(q1d L++r).drop 13=(L.map toB).flatten++r:=by rw[e,List.drop_left' hc]
 unfold q3j;rw[ξ ⟨b,by rw[e,θ,hc];omega⟩,d,i,q4K,Nat.mod_eq_of_lt (by omega),z7r L [] r h l (by simpa using j),List.nil_append]
theorem z6s(l:List UInt8):q1l (q0T l)=true/\q1V (q0T l)=l:=by
 have i:=q0d l;have d:(q0T l).take ((q0T l).length-4)=l:=by
  rw[i,Nat.add_sub_cancel];unfold q0T;exact List.take_left
 have b:q1l (q0T l)=true:=by
  unfold q1l;rw[d,ζ (show 4<=(q0T l).length by omega),ζ rfl];rfl
 exact⟨b,by unfold q1V;rw[ξ b,d]⟩
theorem z4w{L:List To}(h:q6P [] L=true)(d: ∀t∈L,t.e.we<18446744073709551616)(b:L.length<=1000):q2N (q0T (q1d L))=(L,0):=by
 have:=q3k [] h d b;rw[List.append_nil] at this;unfold q2N;rw[(z6s _).2,this]
theorem q5S(s:List UInt8):q2N s=([],10)\/ ∃L,q3j (q1V s)=some (L,[])/\q2N s=(L,0):=by
 unfold q2N
 split
 ·rename_i L h;exact .inr ⟨L,h,rfl⟩
 ·exact .inl rfl
theorem z4V{s:List UInt8}(h:q7S s=true):s=q1f (rdT s)++rdR s:=by
 have b:=h;unfold q7S at b;rw[Ξ] at b;have h1:=of_decide_eq_true b.1;have h2:=of_decide_eq_true b.2;unfold rdT rdR;rw[ξ h,ξ h];have m:=q1t (s.take 2);rw[Θ,Nat.min_eq_left h1] at m;have i:((s.take (2+q1N (s.take 2))).drop 2).length=q1N (s.take 2):=by rw[List.length_drop,Θ];omega
 rw[q1O (by rw[i];omega),i];have d:=q5t (s.take 2);rw[Θ,Nat.min_eq_left h1] at d;rw[d];have l:s.take (2+q1N (s.take 2))=s.take 2++(s.take (2+q1N (s.take 2))).drop 2:=by
  have j:s.take 2=(s.take (2+q1N (s.take 2))).take 2:=by rw[List.take_take,Nat.min_eq_left (by omega)]
  conv=>rhs;lhs;rw[j]
  rw[List.take_append_drop]
 rw[<-l,List.take_append_drop]
theorem y3A{s:List UInt8}{e:Ev}(h:rdE s=some (e,r)):z6q e/\s=evB e++r:=by
 unfold rdE at h
 split at h
 ·rename_i d
  obtain⟨h1,h2,h3,h4⟩:=d
  cases h;have i:q1N ((rdR (rdR s)).take 8)<256^8:=by
   have:=q1t ((rdR (rdR s)).take 8)
   rwa [Θ,Nat.min_eq_left h3] at this
  have b:=q5t ((rdR (rdR s)).take 8);rw[Θ,Nat.min_eq_left h3] at b;refine⟨⟨h4,i⟩,?_⟩;unfold evB;simp only;rw[b,List.append_assoc,List.append_assoc,List.take_append_drop,<-z4V h2,<-z4V h1]
 ·cases h
theorem z7q : ∀(n:Nat) (s r:List UInt8) (acc L:List To),crd n s acc=some (L,r)-> ∃M,L=acc++M/\M.length=n/\s=(M.map toB).flatten++r/\q6P acc M=true/\(∀t∈M,t.e.we<18446744073709551616)/\(acc.length<=1000->L.length<=1000)
 | 0,s,r,acc,L,h=>by
  rw[crd] at h;cases h;exact⟨[],by simp,rfl,by simp,rfl,(fun t b=>by cases b),fun h=>h⟩
 | n + 1, s,r,acc,L,h=>by
  rw[crd] at h
  split at h
  ·rename_i d
   obtain⟨h1,h2,h3⟩:=d
   cases hq:rdE (rdR s) with
   |none=>rw[hq] at h;cases h
   | some x=>
    rw[hq,Option.bind_some] at h;obtain⟨k1,i⟩:=y3A (e:=x.1) (r:=x.2) hq;obtain⟨M,j,l,m,o,q,y⟩:=z7q n x.2 r _ L h;refine⟨⟨rdT s,q8G acc (rdT s),x.1⟩::M,by rw[j,List.append_assoc];rfl,by rw[χ,l],?_,?_,fun t b=>?_,fun D=>y (by rw[θ,List.length_singleton];omega)⟩
    ·rw[List.map_cons,List.flatten_cons,List.append_assoc,<-m]
     show s=(q1f (rdT s)++evB x.1)++x.2;rw[List.append_assoc,<-i,<-z4V h1]
    ·rw[q6P,y1h h2 k1.1 rfl,o];rfl
    ·rcases List.mem_cons.1 b with e|b
     ·rw[e];exact k1.2
     ·exact q t b
  ·cases h
theorem z6V{t:List UInt8}{L:List To}(h:q3j t=some (L,r)):t=q1d L++r/\q6P [] L=true/\(∀x∈L,x.e.we<18446744073709551616)/\L.length<=1000:=by
 unfold q3j at h
 split at h
 ·rename_i i
  obtain⟨h1,h2⟩:=i;obtain⟨M,d,j,l,m,o,q⟩:=z7q _ _ _ _ _ h;rw[List.nil_append] at d;subst d;have b:=q5t ((t.drop 9).take 4);rw[Θ,List.length_drop,Nat.min_eq_left (by omega),<-j] at b;refine⟨?_,m,o,q (υ _)⟩;unfold q1d q9x;rw[b,List.append_assoc,<-l,<-h1,List.append_assoc];rw[show t.drop 13=(t.drop 9).drop 4 by rw[List.drop_drop],List.take_append_drop,List.take_append_drop]
 ·cases h
theorem z0z{s:List UInt8}{L:List To}(h:q2N s=(L,0)):s=q0T (q1d L)/\q6P [] L=true/\(∀x∈L,x.e.we<18446744073709551616)/\L.length<=1000:=by
 rcases q5S s with h1|⟨M,h1,h2⟩
 ·rw[h1] at h;cases h
 ·rw [h2] at h;cases h
  obtain⟨k1,d⟩:=z6V h1;rw[List.append_nil] at k1;refine⟨?_,d⟩;have b:q1l s=true:=by
   cases hb:q1l s with
   |true=>rfl
   | false=>
    unfold q1V at k1;rw[hb] at k1;have:=congrArg List.length k1;unfold q1d at this;rw[θ,q6Q] at this;simp at this;omega
  unfold q1V at k1;rw[ξ b] at k1;unfold q1l at b;rw[Ξ] at b;rw[<-k1];exact(of_decide_eq_true b.2).symm
theorem y0C{L:List To}(h:q6P [] L=true)(l: ∀t∈L,t.e.we<18446744073709551616)(j:L.length<=1000)(k:Nat)(b:k<(q0T (q1d L)).length):q2N ((q0T (q1d L)).take k)=([],10):=by
 rcases q5S ((q0T (q1d L)).take k) with h1|⟨M,h1,h2⟩
 ·exact h1
 ·exfalso
  obtain⟨o,q,y,D⟩:=z0z h2;have e:=(List.take_append_drop k (q0T (q1d L))).symm;rw[o] at e;unfold q0T at e;have m:=q3k (q4v (q0u (q1d L))) h l j;have d:=q3k (q4v (q0u (q1d M))++((q1d L++q4v (q0u (q1d L))).drop k)) q y D;rw[<-List.append_assoc,<-e,m] at d;have i:=congrArg List.length (congrArg Prod.snd (Option.some.inj d));unfold q0T at b;simp only[θ,q3B,List.length_drop] at i b;omega
theorem z7d{L:List To}{s:List UInt8}(h:q2N s=(L,0))(b:UInt8)(M:List To):q2N (s++[b])≠(M,0):=fun h2=>by
 obtain⟨a1,i,j,l⟩:=z0z h;obtain⟨b1,b2,b3,b4⟩:=z0z h2;have d:=q3k (q4v (q0u (q1d L))++[b]) i j l;have o:=q3k (q4v (q0u (q1d M))) b2 b3 b4;have e:q1d L++(q4v (q0u (q1d L))++[b])=q1d M++q4v (q0u (q1d M)):=by
  rw[<-List.append_assoc];have:=a1▸b1;exact this
 rw[e,o] at d;have m:=congrArg List.length (congrArg Prod.snd (Option.some.inj d));simp only[θ,q3B,List.length_singleton] at m;omega
end
section
open Go.RowKit Go.Maps
theorem y4v(w:World):(zeroValue 3).run Tryz.prog w= .ok (.int .i64 0) w:=by kernel_rfl
def CntM(W:World)(gm n:Nat)(L:List To):Prop:=
 ∃D:DataW Unit,W.ownsMap Tryz.prog 9 (plainElem Tryz.prog 3) gm n D/\ ∀s,D.atKey (.string s) (.lit (.int .i64 0))= .lit (.int .i64 (q8G L s:Int))
section
variable {W W1:World}{gm n:Nat}{L:List To}
theorem CntM.made(W:World):CntM (W.alloc (.map #[] 0)) W.heap.size 0 []:=⟨_,World.ownsMap_made _ _ _ _,fun s=>by simp[DataW.atKey,q8G]⟩
theorem CntM.lt(h:CntM W gm n L):gm<W.heap.size:=by
 obtain⟨D,h1,_⟩:=h;exact h1.lt
theorem CntM.same(h:CntM W gm n L)(k:W1.heap[gm]? =W.heap[gm]?):CntM W1 gm n L:=by
 obtain⟨D,h1,h2⟩:=h;exact⟨D,q1g h1 k,h2⟩
theorem CntM.ext(h:CntM W gm n L)(k:Ext W W1):CntM W1 gm n L:=h.same (k.block gm h.lt)
theorem CntM.look(h:CntM W gm n L){s:List UInt8}(i:s.length<=9223372036854775807):(Instr.lookup 83 (.map (some gm)) (.string ⟨s.toArray⟩) false).run Tryz.prog W= .ok (.int .i64 (q8G L s:Int)) W:=by
 obtain⟨D,h1,h2⟩:=h;obtain⟨c,d,b,_⟩:=h1.lookup_int z7L Tryz.underlying83 Tryz.underlying3 (y4v _) (z1N s i);rw[h2 s] at b;injection b with b;injection b with _ b;rw[b];exact d
theorem CntM.put{D:DataW Unit}(d: ∀s,D.atKey (.string s) (.lit (.int .i64 0))= .lit (.int .i64 (q8G L s:Int)))(hm:IsMap D){s:List UInt8}(h:W1.ownsMap Tryz.prog 9 (plainElem Tryz.prog 3) gm n (D.put (.string s) (.lit (.int .i64 ((q8G L s:Int)+1)))))(i:t.s=s):CntM W1 gm n (L++[t]):=by
 refine⟨_,h,fun z=>?_⟩;rw[z2R,i];by_cases b:z=s
 ·subst b
  rw[atKey_put_same hm (k:= .string z) (show WideAt.IsKeyLit (.string z) from trivial),ξ rfl];simp
 ·rw[atKey_put_other (by intro h;injection h with h;exact b h),d z,κ (fun h=>b h.symm)]
  simp
end
end
section
open Go.RowKit
abbrev Pbs :=List (Nat×Bt)
def z1f(P:Pbs):List (Nat×List UInt8):=P.map fun x=>(x.1,btB x.2)
def q5B(sd:Int)(P:Pbs):List En:=(P.map fun x=>q0q sd x.1 x.2 x.2.ev.length).flatten
def q2M(P:Pbs):List Bt:=P.map Prod.snd
def q2g(P:Pbs)(s:List UInt8)(x:En):Option To:=
 match P.find? (fun y=>decide ((y.1:Int)=x.2.2)) with
 |none=>none
 |some y=>if y.2.st=s/\(y.2.fi:Int)<=x.2.1/\x.2.1<(y.2.fi:Int)+(y.2.ev.length:Int) then some ⟨s,x.2.1,y.2.ev.getD (x.2.1-(y.2.fi:Int)).toNat ev0⟩ else none
structure StI(sd:Int)(B:List En)(P:Pbs):Prop where
 ok:okBs (q2M P)
 pos:P.Pairwise fun a b=>a.1<b.1
 ents: ∀x,x∈B↔x∈q5B sd P
theorem z3E(sd:Int): ∀{P:Pbs},(∀y∈P,z4K y.2)->z3Z sd (z1f P)=some (q5B sd P)
 |[],_=>rfl
 | y::P,h=>by
  have b:=z3E sd (P:=P) fun z d=>h z (.tail _ d)
  have h1:=z4A y.2 (h y (.head _));unfold z1f at b⊢;rw[List.map_cons,z3Z,h1,Option.bind_some,b]
  rfl
theorem mem_entsP{sd:Int}{P:Pbs}:x∈q5B sd P↔ ∃y∈P,∃k,k<y.2.ev.length/\x=q3K sd y.1 y.2 k:=by
 unfold q5B;rw[List.mem_flatten]
 constructor
 ·rintro⟨l,j,i⟩
  obtain⟨y,d,rfl⟩:=List.mem_map.1 j;unfold q0q at i;obtain⟨k,b,rfl⟩:=List.mem_map.1 i;exact⟨y,d,k,List.mem_range.1 b,rfl⟩
 ·rintro⟨y,d,k,b,rfl⟩
  exact⟨_,List.mem_map.2 ⟨y,d,rfl⟩,by unfold q0q;exact List.mem_map.2 ⟨k,List.mem_range.2 b,rfl⟩⟩
theorem z5O : ∀{P:Pbs},P.Pairwise (fun a b=>a.1<b.1)-> ∀{y:Nat×Bt},y∈P->P.find? (fun z=>decide ((z.1:Int)=(y.1:Int)))=some y
 |[],_,y,h=>by cases h
 | z ::P,hp,y,h=>by
  obtain⟨h1,h2⟩:=List.pairwise_cons.1 hp;rcases List.mem_cons.1 h with rfl|h
  ·rw[List.find?_cons_of_pos (by simp)]
  ·rw[List.find?_cons_of_neg (by have:=h1 y h;simp;omega)]
   exact z5O h2 h
section
variable {sd :Int}{B:List En}{P:Pbs}
theorem q6j(h:P.Pairwise fun a b=>a.1<b.1){y:Nat×Bt}(i:y∈P)(j:k<y.2.ev.length)(s:List UInt8):q2g P s (q3K sd y.1 y.2 k)=if y.2.st=s then some ⟨s,((y.2.fi+k:Nat):Int),y.2.ev.getD k ev0⟩ else none:=by
 unfold q2g q3K;simp only;rw[z5O h i];simp only;by_cases d:y.2.st=s
 ·rw[ξ d,ξ ⟨d,by omega,by omega⟩,show((y.2.fi:Int)+(k:Int)-(y.2.fi:Int)).toNat=k by omega]
  congr 1
 ·rw[κ d,κ fun h=>d h.1]
theorem StI.found(h:StI sd B P){s:List UInt8}(o:x∈B):q2g P s x=some t↔ ∃y∈P,∃k,k<y.2.ev.length/\x=q3K sd y.1 y.2 k/\y.2.st=s/\t=⟨s,((y.2.fi+k:Nat):Int),y.2.ev.getD k ev0⟩:=by
 obtain⟨y,l,k,d,rfl⟩:=mem_entsP.1 ((h.ents x).1 o);rw[q6j h.pos l d]
 constructor
 ·intro b
  split at b
  ·rename_i i
   injection b with b;exact⟨y,l,k,d,rfl,i,b.symm⟩
  ·cases b
 ·rintro⟨z,q,j,m,he,i,rfl⟩
  have h1:=q6j (sd:=sd) h.pos l d s;have h2:=q6j (sd:=sd) h.pos q m s;rw[<-he,h1,ξ i] at h2;exact h2
theorem StI.mem_str(h:StI sd B P){s:List UInt8}:t∈z9Y (q2M P) s↔ ∃y∈P,∃k,k<y.2.ev.length/\y.2.st=s/\t=⟨s,((y.2.fi+k:Nat):Int),y.2.ev.getD k ev0⟩:=by
 rw[<-q6G h.ok,List.mem_filter,mem_tos]
 constructor
 ·rintro⟨⟨b,l,k,i,rfl⟩,d⟩
  obtain⟨y,j,rfl⟩:=List.mem_map.1 l;simp only[Φ] at d;exact⟨y,j,k,i,d,by rw[d]⟩
 ·rintro⟨y,j,k,i,d,rfl⟩
  exact⟨⟨y.2,List.mem_map.2 ⟨y,j,rfl⟩,k,i,by rw[d]⟩,by simp⟩
theorem StI.between(h:StI sd B P)(hB:q1C B)(s:List UInt8)(a b:Int):(q1B B (q2z sd s) a b).filterMap (q2g P s)=(z9Y (q2M P) s).filter fun t=>decide (a<=t.v/\t.v<=b):=by
 refine y4Y ?_ ((z8x _ _ _).filter _) fun t=>?_
 ·rw [List.pairwise_filterMap]
  refine List.Pairwise.imp_of_mem ?_ (q5X hB (q2z sd s) a b);intro x y N O d t Z u hu;obtain⟨G,a0,I,J⟩:=mem_range.1 N;obtain⟨b0,c0,d0,e0⟩:=mem_range.1 O;obtain⟨p,hp,i,hi,rfl,Q,rfl⟩:=(h.found G).1 Z;obtain⟨q,hq,j,hj,rfl,R,rfl⟩:=(h.found b0).1 hu;rw[lessE_iff] at d;unfold q3K at d;simp only at d⊢;rw[Q,R] at d;rcases d with d|⟨_,d|⟨he,X⟩⟩
  ·omega
  ·omega
  ·exfalso
   obtain⟨l,r,hl⟩:=List.append_of_mem hp;have o:=h.ok;have D:=h.pos;rw[hl] at o D hq;rcases List.mem_append.1 hq with hq|hq
   ·have:=(List.pairwise_append.1 D).2.2 q hq p (.head _)
    omega
   ·rcases List.mem_cons.1 hq with hq|hq
    ·rw[hq] at X;omega
    ·obtain⟨m,r2,hm⟩:=List.append_of_mem hq
     rw[hm] at o;unfold q2M at o;rw[List.map_append,List.map_cons,List.map_append,List.map_cons] at o;have:=okBs.apart (l:=l.map Prod.snd) (b:=p.2) (m:=m.map Prod.snd) (c:=q.2) (r:=r2.map Prod.snd) (by rw[List.append_assoc,List.cons_append];exact o) (by rw[Q,R]);omega
 ·rw [List.mem_filterMap,List.mem_filter,h.mem_str,Φ]
  constructor
  ·rintro⟨x,N,Z⟩
   obtain⟨G,a0,I,J⟩:=mem_range.1 N;obtain⟨y,O,k,S,rfl,U,rfl⟩:=(h.found G).1 Z;unfold q3K at I J;simp only at I J⊢;exact⟨⟨y,O,k,S,U,rfl⟩,by omega,by omega⟩
  ·rintro⟨⟨y,O,k,S,U,rfl⟩,h1,h2⟩
   simp only at h1 h2;have N:q3K sd y.1 y.2 k∈B:=(h.ents _).2 (mem_entsP.2 ⟨y,O,k,S,rfl⟩);refine⟨q3K sd y.1 y.2 k,mem_range.2 ⟨N,?_,?_,?_⟩,(h.found N).2 ⟨y,O,k,S,rfl,U,rfl⟩⟩
   ·unfold q3K;simp only;rw[U]
   ·unfold q3K;simp only;omega
   ·unfold q3K;simp only;omega
theorem q9W(b:List Bt)(s:List UInt8):(z9Y b s).length=(q0y b s).length:=q3s _ _ _
theorem StI.has(h:StI sd B P){s:List UInt8}{v:Nat}(j:v<(q0y (q2M P) s).length): ∃x∈B,x.1=q2z sd s/\x.2.1=(v:Int):=by
 have i:(⟨s,((0+v:Nat):Int),(q0y (q2M P) s).getD v ev0⟩:To)∈z9Y (q2M P) s:=numT_mem.2 ⟨v,j,rfl⟩;obtain⟨y,l,k,b,d,he⟩:=h.mem_str.1 i;injection he with _ he _;refine⟨q3K sd y.1 y.2 k,(h.ents _).2 (mem_entsP.2 ⟨y,l,k,b,rfl⟩),?_,?_⟩
 ·unfold q3K;simp only;rw[d]
 ·unfold q3K;simp only;omega
theorem StI.last(h:StI sd B P)(m:okM B){s:List UInt8}{u r:Int}(O:((q0y (q2M P) s).length:Int)-1<=u)(i:z4l B (q2z sd s) u r):
  ((q0y (q2M P) s).length:Int)-1<=r/\ -1<=r/\(r<0->q0y (q2M P) s=[])/\(0<=r->(z9Y (q2M P) s).filter (fun t=>decide (r<=t.v/\t.v<=r))=[]->((q0y (q2M P) s).length:Int)-1<=r-1)/\
   ((z9Y (q2M P) s).filter (fun t=>decide (r<=t.v/\t.v<=r))≠[]->((q0y (q2M P) s).length:Int)-1=r):=by
 have l: -1<=r:=by
  rcases i.2 with e|⟨y,I,_,_,e⟩
  ·omega
  ·have:=okEn_iff.1 (m.ok y I);omega
 have h1:((q0y (q2M P) s).length:Int)-1<=r:=by
  rcases Nat.eq_zero_or_pos (q0y (q2M P) s).length with e|e
  ·omega
  ·obtain⟨x,G,j,J⟩:=h.has (s:=s) (v:=(q0y (q2M P) s).length-1) (by omega)
   have:=i.1 x G j (by omega);omega
 refine⟨h1,l,fun D=>?_,fun D he=>?_,fun b=>?_⟩
 ·exact List.length_eq_zero_iff.1 (by omega)
 ·rcases Int.lt_or_le (((q0y (q2M P) s).length:Int)-1) r with q|o
  ·omega
  ·exfalso
   have d:(⟨s,((0+r.toNat:Nat):Int),(q0y (q2M P) s).getD r.toNat ev0⟩:To)∈z9Y (q2M P) s:=numT_mem.2 ⟨r.toNat,by omega,rfl⟩;have:=(List.mem_filter (p:=fun t:To=>decide (r<=t.v/\t.v<=r))).2 ⟨d,by simp;omega⟩;rw[he] at this
   cases this
 ·obtain⟨t,d⟩:=List.exists_mem_of_ne_nil _ b
  obtain⟨h2,h3⟩:=List.mem_filter.1 d;obtain⟨k,N,rfl⟩:=numT_mem.1 h2;simp only[Φ] at h3;omega
end
theorem z6c(sd:Int)(P:Pbs)(p:Nat)(b:Bt):q5B sd (P++[(p,b)])=q5B sd P++q0q sd p b b.ev.length:=by
 unfold q5B;rw[List.map_append,List.flatten_append];simp
theorem q4y(P:Pbs)(p:Nat)(b:Bt):q2M (P++[(p,b)])=q2M P++[b]:=by unfold q2M;rw[List.map_append];rfl
theorem mem_addEs{x:En}: ∀{es L:List En},x∈q1h es L↔x∈es\/x∈L
 |[],L=>by unfold q1h;simp
 | e ::es,L=>by
  have h:=mem_addEs (x:=x) (es:=es) (L:=q4L e L);unfold q1h at*;rw[List.foldl_cons,h,mem_addE,List.mem_cons]
  constructor
  ·rintro(h|h|h)
   ·exact .inl (.inr h)
   ·exact .inl (.inl h)
   ·exact .inr h
  ·rintro((h|h)|h)
   ·exact .inr (.inl h)
   ·exact .inl h
   ·exact .inr (.inr h)
theorem StI.snoc{sd:Int}{B:List En}{P:Pbs}(h:StI sd B P){p:Nat}{b:Bt}(i:z4K b)(j:b.fi=(q0y (q2M P) b.st).length)(l: ∀y∈P,y.1<p):StI sd (q1h (q0q sd p b b.ev.length) B) (P++[(p,b)]):=by
 refine⟨by rw[q4y];exact okBs_snoc.2 ⟨h.ok,i,j⟩,?_,fun x=>?_⟩
 ·rw[List.pairwise_append]
  exact⟨h.pos,List.pairwise_singleton _ _,fun a d c hc=>by obtain rfl:=List.mem_singleton.1 hc;exact l a d⟩
 ·rw[mem_addEs,z6c,List.mem_append,h.ents]
  exact Or.comm
theorem q7e(sd:Int)(P:Pbs):(q5B sd P).length=(tos (q2M P)).length:=by
 unfold q5B tos q2M;rw[List.length_flatten,List.length_flatten,List.map_map,List.map_map,List.map_map]
 congr 1
 refine List.map_congr_left fun x _=>?_
 simp only[Function.comp];rw[q4a,q4j]
theorem StI.len{sd:Int}{B:List En}{P:Pbs}(h:StI sd B P)(i:q1C B):B.length<=(tos (q2M P)).length:=by
 rw[<-q7e sd];have j:B.Nodup:=i.imp fun {a b} d e=>by rw[e,q0h] at d;cases d
 exact nodup_leB j fun x l=>(h.ents x).1 l
where nodup_leB {α:Type} [DecidableEq α]: ∀{l m:List α},l.Nodup->(∀x∈l,x∈m)->l.length<=m.length
 |[],_,_,_=>υ _
 | x::l,m,h,hm=>by
  obtain⟨h1,h2⟩:=List.nodup_cons.1 h;have hx:=hm x (.head _);have h3:=nodup_leB (m:=m.erase x) h2 fun y hy=>(List.mem_erase_of_ne (fun e:y=x=>h1 (by rw[<-e];exact hy))).2 (hm y (.tail _ hy))
  rw[List.length_erase_of_mem hx] at h3;have:=List.length_pos_of_mem hx;rw[χ];omega
theorem q4V : ∀(A acc B:List To),q6P acc (A++B)=(q6P acc A&&q6P (acc++A) B)
 |[],acc,B=>by rw[List.nil_append,List.append_nil];rfl
 | t::A,acc,B=>by
  rw[List.cons_append,q6P,q6P,q4V A (acc++[t]) B,Bool.and_assoc,List.append_assoc];rfl
theorem q7X{L:List To}(h:k<L.length):L.take (k+1)=L.take k++[L.getD k to0]:=by
 rw[List.take_succ_eq_append_getElem h,δ,γ h];rfl
theorem z2L{L:List To}(h:k<L.length):q6P [] (L.take (k+1))=(q6P [] (L.take k)&&cOk (L.take k) (L.getD k to0)):=by
 rw[q7X h,q4V,List.nil_append];simp[q6P]
theorem z7Z{L:List To}(h:k<L.length)(b:cOk (L.take k) (L.getD k to0)=false):q6P [] L=false:=by
 have e:=q4V (L.take (k+1)) [] (L.drop (k+1));rw[List.take_append_drop,z2L h,b,Bool.and_false,Bool.false_and] at e;exact e
theorem y1a{L:List To}(h:k<L.length):((L.take (k+1)).map toB).flatten=((L.take k).map toB).flatten++toB (L.getD k to0):=by
 rw[q7X h,List.map_append,List.flatten_append];simp
theorem z3N(h1:q1k t.s=true)(h2:q0Y t.e.ty t.e.da=0):(toB t).length<=400:=by
 obtain⟨_,h3,h4⟩:=q1i h2;have b:=q9X h1;unfold toB evB;rw[q1O (by omega),q1O (by omega),q1O (by omega)];simp[q0F];omega
theorem z4v{s:List UInt8}(h: ∀L,q3j (q1V s)≠some (L,[])):q2N s=([],10):=by
 rcases q5S s with h1|⟨L,h1,_⟩
 ·exact h1
 ·exact absurd h1 (h L)
theorem z7b{s:List UInt8}{L:List To}(h:q3j (q1V s)=some (L,[])):q2N s=(L,0):=by
 unfold q2N;rw[h]
theorem z7c(l:List UInt8)(k:Nat)(u d:UInt8)(i:(q0T l)[k]? =some u)(b:d≠u):q2N ((q0T l).set k d)=([],10):=by
 refine z4v fun L h=>?_
 unfold q1V at h;rw[z4M l k u d i b] at h;unfold q3j at h;simp[markB] at h
theorem z4u{st:List UInt8}(b:q1k st=true): ∀(ev:List Ev) (fi:Nat) (acc:List To),(∀e∈ev,q0Y e.ty e.da=0)->q8G acc st=fi->q6P acc (q5W st fi ev)=true
 |[],_,_,_,_=>rfl
 | e::ev,fi,acc,he,hf=>by
  rw[q5W,q6P,y1h b (he e (.head _)) (by rw[hf]),Bool.true_and];exact z4u b ev (fi+1) _ (fun x d=>he x (.tail _ d)) (by rw[z2R,ξ rfl,hf])
theorem z0y(d:List Bt)(h:okBs d):q6P [] (tos d)=true:=by
 induction d using q9U with
 |h0=>rfl
 | h1 l b ih=>
  obtain⟨h1,h2,h3⟩:=okBs_snoc.1 h;obtain⟨i,m,o,q,y,D,j⟩:=q0g h2.1;rw[q2a,q4V,ih h1,Bool.true_and,List.nil_append,show tos [b]=y4n b by unfold tos;simp];unfold y4n;refine z4u ?_ _ _ _ (q4b j) ?_
  ·unfold q1k
   rw[Ξ,Φ,Φ];have:=List.length_pos_iff.2 i;omega
  ·unfold q8G
   rw[q6G h1,q9W,h3]
theorem y1z{i:List Bt}(h:okBs i): ∀t∈tos i,t.e.we<18446744073709551616:=fun t d=>by
 obtain⟨l,q,hm⟩:=List.mem_flatten.1 d;obtain⟨b,m,rfl⟩:=List.mem_map.1 q;have o:=h.each m;have e: ∀(ev:List Ev) (fi:Nat),(∀e∈ev,e.we<18446744073709551616)-> ∀t∈q5W b.st fi ev,t.e.we<18446744073709551616:=fun ev=>by
  induction ev with
  |nil=>intro fi _ t d;cases d
  | cons x r ih=>
   intro fi j t d;rcases List.mem_cons.1 d with rfl|d
   ·exact j x (.head _)
   ·exact ih (fi+1) (fun y D=>j y (.tail _ D)) t d
 exact e b.ev b.fi o.2 t hm
def toc(t:To):List Value:=[.string ⟨t.s.toArray⟩,.int .i64 t.v,.string ⟨t.e.ty.toArray⟩,.string ⟨t.e.da.toArray⟩,.float .f64 t.e.we]
def toV(t:To):Value:= .agg #[.string ⟨t.s.toArray⟩,.int .i64 t.v,.string ⟨t.e.ty.toArray⟩,.string ⟨t.e.da.toArray⟩,.float .f64 t.e.we]
def q5Q(L:List To):List Value:=(L.map toc).flatten
theorem q7Y(t:To):(toc t).length=5:=rfl
theorem z3O(t:To)(L:List To):q5Q (t::L)=toc t++q5Q L:=rfl
theorem q9b(L M:List To):q5Q (L++M)=q5Q L++q5Q M:=by unfold q5Q;rw[List.map_append,List.flatten_append]
theorem q6y(L:List To)(t:To):q5Q (L++[t])=q5Q L++toc t:=by rw[q9b];unfold q5Q;simp
theorem q7Z : ∀(L:List To) (i j:Nat),i<L.length->j<5->(q5Q L)[i*5+j]? =(toc (L.getD i to0))[j]?
 |[],i,j,h,_=>by simp at h
 | k::L,0,j,_,hj=>by
  rw[z3O,List.getElem?_append_left (by rw[q7Y];omega)];simp
 | k::L,i+1,j,h,hj=>by
  rw[z3O,List.getElem?_append_right (by rw[q7Y];omega),show(i+1)*5+j-(toc k).length=i*5+j by rw[q7Y];omega,q7Z L i j (by simpa using h) hj];simp
structure Tos(w:World)(ao:Option Addr)(n cap:Nat)(L:List To):Prop where
 len:L.length=n
 fits:n<=cap
 bound:cap<=9223372036854775807
 nil:ao=none->cap=0
 rd:Rd w ao (q5Q L)
theorem Tos.ext{w w':World}{n:Nat}{L:List To}(h:Tos w ao n cap L)(k:Ext w w'):Tos w' ao n cap L:=⟨h.len,h.fits,h.bound,h.nil,h.rd.ext k⟩
theorem Tos.empty(w:World):Tos w none 0 0 []:=⟨rfl,ι _,by omega,fun _=>rfl,Rd.nil _ _⟩
theorem Tos.at{w:World}{n:Nat}{L:List To}(h:Tos w ao n cap L){i:Nat}(G:i<n):
  ∃b off,ao=some ⟨b,off,none⟩/\w.cell? ⟨b,off+i*5,none⟩=some (.string ⟨(L.getD i to0).s.toArray⟩)/\w.cell? ⟨b,off+i*5+1,none⟩=some (.int .i64 (L.getD i to0).v)/\w.cell? ⟨b,off+i*5+2,none⟩=some (.string ⟨(L.getD i to0).e.ty.toArray⟩)/\w.cell? ⟨b,off+i*5+3,none⟩=some (.string ⟨(L.getD i to0).e.da.toArray⟩)/\w.cell? ⟨b,off+i*5+4,none⟩=some (.float .f64 (L.getD i to0).e.we):=by
 have I:=h.len;have k0:=q7Z L i 0 (by omega) (by decide);have k1:=q7Z L i 1 (by omega) (by decide);have q:=q7Z L i 2 (by omega) (by decide);have y:=q7Z L i 3 (by omega) (by decide);have D:=q7Z L i 4 (by omega) (by decide);obtain⟨b,off,rfl,o⟩:=h.rd _ _ k0;obtain⟨_,_,d,h1⟩:=h.rd _ _ k1
 cases d;obtain⟨_,_,j,h2⟩:=h.rd _ _ q
 cases j;obtain⟨_,_,l,h3⟩:=h.rd _ _ y
 cases l;obtain⟨_,_,m,h4⟩:=h.rd _ _ D
 cases m;exact⟨b,off,rfl,o,h1,h2,h3,h4⟩
theorem Tos.of_own{w:World}{B:Nat}{e:TypeId}{v:Value}{L:List To}(h:Own w B e 5 v L.length (q5Q L)): ∃ao cap,v= .slice ao L.length cap/\Tos w ao L.length cap L:=by
 obtain⟨ao,cap,rfl,h1,h2,h3,h4⟩:=h.rd;exact⟨ao,cap,rfl,rfl,h1,h2,h3,h4⟩
theorem Tryz.infoTo :(Tryz.prog.info? 68).map (fun i=>(i.zero,i.size,i.bytes))=some (some (.agg #[.string ⟨#[]⟩,.int .i64 0,.string ⟨#[]⟩,.string ⟨#[]⟩,.float .f64 0]),5,64):=by kernel_rfl
end
section
open Go.RowKit Go.Maps
abbrev BldB(b:Nat)(T:List UInt8)(W:World):Prop:=Lib.IsBuilder 86 5 b b (Lib.byteCells T) W
theorem BldB.ext{W:World}{b:Nat}{T:List UInt8}(h:BldB b T W)(k:Ext W W'):BldB b T W':=by
 have d: ∀p,Lib.BuilderAt 86 5 b b p (Lib.byteCells T) W->Lib.BuilderAt 86 5 b b p (Lib.byteCells T) W':=fun p h=>by
  have i:=h.lt;obtain⟨h1,v,h2,h3,h4⟩:=h;exact⟨h1,v,(k.block b i).trans h2,q0I h3 k,h4⟩
 exact h.imp (d _) (d _)
theorem BldB.lt{W:World}{b:Nat}{T:List UInt8}(h:BldB b T W):b<W.heap.size:=h.elim (fun h=>h.lt) fun h=>h.lt
theorem BldB.kept{W:World}{b:Nat}{T:List UInt8}(h:BldB b T W)(m:W.heap.size<=W'.heap.size)(k: ∀i,b<=i->i<W.heap.size->W'.heap[i]? =W.heap[i]?):BldB b T W':=by
 have d: ∀p,Lib.BuilderAt 86 5 b b p (Lib.byteCells T) W->Lib.BuilderAt 86 5 b b p (Lib.byteCells T) W':=fun p h=>by
  have j:=h.lt;obtain⟨h1,v,h2,h3,h4⟩:=h;exact⟨h1,v,(k b (ι _) j).trans h2,q0t h3 fun i l=>k i (q0a h3 i l).1 (q0a h3 i l).2,h4⟩
 exact h.imp (d _) (d _)
theorem z0x(a b:List UInt8):Lib.byteCells (a++b)=Lib.byteCells a++Lib.byteCells b:=by unfold Lib.byteCells;exact List.map_append
theorem z9p{W:World}{b:Nat}{T:List UInt8}(S:List UInt8)(h:BldB b T W)(d:T.length+S.length<=10000000):
  Calls Tryz.prog 28 #[.pointer (some ⟨b,0,none⟩),.string ⟨S.toArray⟩] W fun e w'=>e= .returned (.tuple #[.int .i64 (S.length:Int),.nilIface])/\BldB b (T++S) w'/\Below b W w':=by
 refine(Tryz.Builder_WriteString b b (Lib.byteCells T) ⟨S.toArray⟩ W h (by rw[Lib.byteCells_length];simp[ByteArray.size];omega) (Nat.le_of_lt h.lt)).mono ?_;rintro e w' ⟨rfl,h1,h2⟩;refine⟨by simp[ByteArray.size],.inr ?_,h2⟩;rw[z0x];exact h1
theorem y1V{W:World}{b:Nat}{T:List UInt8}(h:BldB b T W)(d:T≠[]):
  Calls Tryz.prog 35 #[.pointer (some ⟨b,0,none⟩)] W fun e w'=>e= .returned (.string ⟨T.toArray⟩)/\Below b W w':=Tryz.Builder_String b b T W h d
theorem z3q{n:Nat}{L:List To}(w:World)(d:Tos w ao n cap L)(q0: ∀t∈L,t.s.length<=4611686018427387903/\t.e.ty.length<=4611686018427387903/\t.e.da.length<=4611686018427387903)(hw: ∀t∈L,t.e.we<18446744073709551616):
  Calls Tryz.prog 10 #[.slice ao n cap] w fun e w'=>e= .returned (.tuple #[.string ⟨(q6T L).1.toArray⟩,.int .i64 (q6T L).2])/\Ext w w':=by
 have I:=d.len;have b1:=d.fits;have b2:=d.bound;have x1:=η (Ext.refl w);by_cases T0:1000<n
 ·have HN:Hd (q6T L=([],3)):=η (by unfold q6T;rw[ξ (by omega)])
  have hd:decide ((1000:Int)<(n:Int))=true:=ζ (by omega);clear d q0 hw I T0;go_enter Tryz.func10,Tryz.ntmps10;go_wp2_with fail;go_ret2;exact⟨by rw[HN.o];rfl,x1.o⟩
 have hd:decide ((1000:Int)<(n:Int))=false:=ε (by omega);have HE:Hd (q6T L=if q6P [] L=true then(q0T (q1d L),0) else([],2)):=η (by unfold q6T;rw[κ (by omega)]);have HP:=η (fun W=>z4T (n:Int) 4 4 W rfl (by omega) (by omega) (by omega) (by omega));rw[Int.toNat_natCast] at HP;have qn:IntKind.u64.wrap (n:Int)=(n:Int):=by rw[IntKind.wrap_u64];omega
 have F1:((⟨#[97,110,110,97,108,105,115,116,10]⟩:ByteArray)++⟨(be 4 n).toArray⟩)=⟨(q9x n).toArray⟩:=q2B markB (be 4 n);have L1:(be 4 n).length=4:=q0F 4 n;have U0:=q6Q n;have d1:Hd (q1d L=q9x n++((L.take n).map toB).flatten):=η (by unfold q1d;rw[<-I,List.take_length]);have q1:¬(9223372036854775807<(9:Nat)+(be 4 n).length):=by omega
 have HT:=η d;have F0:=η I;have p1:=η q0;have u1:=η hw;have G0:=η (CntM.made w);have l0:(w.alloc (.map #[] 0)).heap.size=w.heap.size+1:=ρ _ _;have O0:BldB (w.heap.size+1) [] ((w.alloc (.map #[] 0)).alloc (.cells #[.pointer none,.slice none 0 0] 86)):=by
  have:=Lib.fresh_isBuilder 86 5 (w.alloc (.map #[] 0));rw[l0] at this;exact this
 have v0:=η O0;have O:=η (q6f w (.map #[] 0) (.cells #[.pointer none,.slice none 0 0] 86));have H0:=η (G0.o.ext (q0B (w.alloc (.map #[] 0)) (.cells #[.pointer none,.slice none 0 0] 86)));have N1:=@run_makeMap Tryz.prog;generalize be 4 n=D at*;generalize C1:q9x n=H at*;clear d q0 hw I O0 l0 C1;go_enter Tryz.func10,Tryz.ntmps10;go_wp2_with fail;refine(HP.o _).mono ?_;rintro e w1 ⟨rfl,d⟩;have HW:=η (z9p H (v0.o.ext d) (by simp;omega));have M0:=η (O.o.trans d);have I0:=η (H0.o.ext d);clear d HP v0 G0 H0;go_wp2_with fail;refine HW.o.mono ?_;rintro e w2 ⟨rfl,hb,d⟩;have m0:=η (I0.o.same (d.block _ (by omega)));have J:Hd (BldB (w.heap.size+1) H w2):=η hb;have m:Hd (Ext w w2):=η (Below.trans M0.o (d.mono (by omega)));clear d hb HW I0 M0;go_wp2_with fail
 go_loopw [20] (fun i W=> ∃(k:Nat) (T:List UInt8),k<=n/\i= .int .i64 (k:Int)/\q6P [] (L.take k)=true/\CntM W w.heap.size k (L.take k)/\BldB (w.heap.size+1) T W/\T=H++((L.take k).map toB).flatten/\T.length<=13+400*k/\Ext w W) (fun i _=>n-(intOf i).toNat)
 case atStart=>exact⟨0,H,υ _,rfl,rfl,m0.o,J.o,by simp,by omega,m.o⟩
 case round=>
  obtain⟨k,T,hk,rfl,U,hm,j,hT,I1,d⟩:=hrel;have HM:=η hm;have HB:=η j;have s1:=η hT;have HX:=η d;have s0:=η U;by_cases V0:k<n
  ·have D1:decide ((k:Int)<(n:Int))=true:=ζ (by omega)
   have K1:(k:Int)<(n:Int):=by omega
   obtain⟨bb,off,rfl,c0,c1,c2,c3,c4⟩:=(HT.o.ext d).at V0;have y:k<L.length:=by rw[F0.o];exact V0
   have X:L.getD k to0∈L:=by rw[δ,γ y];exact List.getElem_mem y
   have m1:=η (z2L y);have n0:=η (fun h=>z7Z y h);have n1:=η (y1a y);have t1:=η (q7X y);obtain⟨l1,l2,l3⟩:=p1.o _ X;have X0:=u1.o _ X;have O1:=q2U;generalize L.getD k to0=t at*;obtain⟨ts,R,⟨ty,da,we⟩⟩:=t;simp only at c0 c1 c2 c3 c4 l1 l2 l3 X0;have o0:=η (fun W=>z1l ts W (by omega));have g1:=η (fun W=>q8I ty da .f64 we W l2 l3);have E0:=η (z1N ts (by omega));have Y0:=q0B wr (.cells #[.string ⟨ts.toArray⟩,.int .i64 R,.string ⟨ty.toArray⟩,.string ⟨da.toArray⟩,.float .f64 we] 68);have a1:=η (Blk.new wr 68 #[.string ⟨ts.toArray⟩,.int .i64 R,.string ⟨ty.toArray⟩,.string ⟨da.toArray⟩,.float .f64 we]);have O:=η Y0;have q2:IntKind.i64.wrap ((k:Int)+1)=(k:Int)+1:=by rw[ν];omega
   have N:Hd (cOk (L.take k) ⟨ts,R,⟨ty,da,we⟩⟩=(q1k ts&&decide (q0Y ty da=0)&&decide (R=(q8G (L.take k) ts:Int)))):=η rfl;obtain⟨z1,r0⟩: ∃z,q1k ts=z:=⟨_,rfl⟩
   rw[r0] at o0 N;have B1:=η r0;clear d hm j hT U y X Y0 r0
   cases z1 with
   | false=>
    have S:Hd (q6T L=([],2)):=η (by rw[HE.o,n0.o (by rw[N.o];rfl)];rfl);go_wp2_with fail;refine(o0.o _).mono ?_;rintro e w3 ⟨rfl,d⟩;have m:=η ((HX.o.trans O.o).trans d);clear d;go_wp2_with fail
    (try rw[Exit.noGoto_ret])
    go_ret2;exact⟨by rw[S.o];rfl,m.o⟩
   | true=>
    go_wp2_with fail;refine(o0.o _).mono ?_;rintro e w3 ⟨rfl,d⟩;have m:=η ((HX.o.trans O.o).trans d);have J:=η (a1.o.ext d);have z0:=η ((HB.o.ext O.o).ext d);have m0:=η ((HM.o.ext O.o).ext d);have k2:=J.o.cell 2;have k3:=J.o.cell 3;have k4:=J.o.cell 4;clear d;go_wp2_with fail;refine(g1.o _).mono ?_;rintro e w4 ⟨rfl,d⟩;have Q:=η (m.o.trans d);have b0:=η (J.o.ext d);have A0:=η (z0.o.ext d);have J0:=η (m0.o.ext d);have k0:=b0.o.cell 0;have k1:=b0.o.cell 1;have G:=J0.o.look (show ts.length<=9223372036854775807 by omega);clear d k2 k3 k4;obtain⟨ec,i0⟩: ∃z,q0Y ty da=z:=⟨_,rfl⟩
    obtain⟨cn,f0⟩: ∃z,q8G (L.take k) ts=z:=⟨_,rfl⟩
    rw[i0,f0] at N;rw[i0];rw[f0] at G;have j0:=η i0;have d0:=η f0;clear i0 f0;by_cases h0:ec=0
    case neg=>
     have g0:(ec !=0)=true:=by simpa using h0
     have S:Hd (q6T L=([],2)):=η (by rw[HE.o,n0.o (by rw[N.o,ε h0];rfl)];rfl);go_wp2_with fail
     (try rw[Exit.noGoto_ret])
     go_ret2;exact⟨by rw[S.o];rfl,Q.o⟩
    subst h0;by_cases hv:R=(cn:Int)
    case neg=>
     have g0:(R !=(cn:Int))=true:=by simpa using hv
     have S:Hd (q6T L=([],2)):=η (by rw[HE.o,n0.o (by rw[N.o,ε hv];rfl)];rfl);go_wp2_with fail
     (try rw[Exit.noGoto_ret])
     go_ret2;exact⟨by rw[S.o];rfl,Q.o⟩
    have g0:(R !=(cn:Int))=false:=by simpa using hv
    have t0:Hd (q6P [] (L.take (k+1))=true):=η (by rw[m1.o,s0.o,N.o,ζ hv];rfl);have G1:cn<=k:=by
     rw[<-d0.o];unfold q8G;exact Ω (List.length_filter_le _ _) (by rw[Θ];omega)
    have q3:IntKind.i64.wrap ((cn:Int)+1)=(cn:Int)+1:=by rw[ν];omega
    have W0:z6q ⟨ty,da,we⟩:=⟨j0.o,X0⟩
    have r1:=η (fun W=>z6F ts W l1);have x0:=η (fun W=>z5E ⟨ty,da,we⟩ W W0);have y0:Hd (∀W,Calls Tryz.prog 33 #[.agg #[.string ⟨ty.toArray⟩,.string ⟨da.toArray⟩,.float .f64 we]] W fun r w'=>r= .returned (.string ⟨(evB ⟨ty,da,we⟩).toArray⟩)/\Ext W w'):=x0;have H1:=z3N (t:=⟨ts,R,⟨ty,da,we⟩⟩) B1.o j0.o;have hce:((⟨(q1f ts).toArray⟩:ByteArray)++⟨(evB ⟨ty,da,we⟩).toArray⟩)=⟨(toB ⟨ts,R,⟨ty,da,we⟩⟩).toArray⟩:=q2B _ _;have J1:(toB ⟨ts,R,⟨ty,da,we⟩⟩).length=(q1f ts).length+(evB ⟨ty,da,we⟩).length:=by unfold toB;rw[θ]
    generalize q1f ts=A at*;generalize evB ⟨ty,da,we⟩=E at*;generalize toB ⟨ts,R,⟨ty,da,we⟩⟩=Z at*;have q4:¬(9223372036854775807<A.length+E.length):=by omega
    obtain⟨D0,Q0,R0⟩:=J0.o;have C0:=η Q0;have f1:=η R0;rw[<-d0.o] at q3 G;clear W0 x0 g0;have g0:(R !=(q8G (L.take k) ts:Int))=false:=by rw[d0.o];simpa using hv
    have E1:(Lit.int .i64 ((q8G (L.take k) ts:Int)+1)).wf=true:=by
     have:=d0.o;unfold Lit.wf;rw[Ξ,Φ,Φ];have e1:IntKind.i64.min= -9223372036854775808:=by decide
     have e2:IntKind.i64.max=9223372036854775807:=by decide
     omega
    clear Q0 R0 hv
    go_wp2_with (at_mapUpdate;refine wpList_mapUpdate_own _ rfl _ _ _ 83 rfl 9 3 z7L Tryz.underlying83 _ w.heap.size k D0 rfl C0.o (by unfold maxLen;omega) _ _ (.string ts) rfl rfl E0.o _ [] (plainElem_int Tryz.underlying3 E1) ?_;intro w5 a0 l)
    have i1:Hd (CntM w5 w.heap.size (k+1) (L.take (k+1))):=η (by rw[t1.o];exact CntM.put f1.o (World.ownsMap.isMap C0.o) a0 rfl);have y1:Hd (Ext w w5):=η (Q.o.grown l Q.o.size (fun q hq=>by cases hq;exact ι _));have M1:=HB.o.lt;have B0:Hd (BldB (w.heap.size+1) T w5):=η (A0.o.kept l.size fun i h1 h2=>l.block i h2 (fun e=>by have:=Option.some.inj e;omega));have P0:=b0.o.same (l.block wr.heap.size b0.o.lt (fun e=>by have:=Option.some.inj e;omega));have p0:Hd (∀W,Ext w5 W->(W.cell? ⟨wr.heap.size,0,none⟩=some (.string ⟨ts.toArray⟩)/\W.cell? ⟨wr.heap.size,2,none⟩=some (.string ⟨ty.toArray⟩)/\W.cell? ⟨wr.heap.size,3,none⟩=some (.string ⟨da.toArray⟩)/\W.cell? ⟨wr.heap.size,4,none⟩=some (.float .f64 we))):=η fun W h=>by
     have hb:=P0.ext h;exact⟨hb.cell 0,hb.cell 2,hb.cell 3,hb.cell 4⟩
    clear a0 l P0 G k0 k1;refine q1q (fun W:World=>(W.cell? ⟨wr.heap.size,0,none⟩=some (.string ⟨ts.toArray⟩)/\W.cell? ⟨wr.heap.size,2,none⟩=some (.string ⟨ty.toArray⟩)/\W.cell? ⟨wr.heap.size,3,none⟩=some (.string ⟨da.toArray⟩)/\W.cell? ⟨wr.heap.size,4,none⟩=some (.float .f64 we))) 7 (by kernel_rfl) (p0.o _ (Ext.refl _).drew) (fun b=>?_);refine q0j 0 b (fun b=>?_);refine q5P 1 b (fun b=>?_);refine q0j 3 b (fun b=>?_);refine q5P 4 b (fun b=>?_);simp only[Act.put,π,ψ,ω];refine q0n (i:=2) (by kernel_rfl) rfl (fun K hK=>?_)
    go_simp
    go_at_call 32
    refine(r1.o _).mono ?_;rintro e w6 ⟨rfl,d⟩;have N0:Hd (Ext w5 w6):=η ((Ext.refl w5).drew.trans d);clear d b;refine hK.out _ _ (p0.o _ N0.o) (fun b=>?_);clear hK K
    try simp only[Act.put,π,ψ,ω]
    refine q0n (i:=5) (by kernel_rfl) rfl (fun K hK=>?_)
    go_simp
    go_at_call 33
    refine(y0.o _).mono ?_;rintro e w7 ⟨rfl,d⟩;have e0:Hd (Ext w5 w7):=η (N0.o.trans d);clear d b;refine hK.out _ _ (p0.o _ e0.o) (fun b=>?_);clear hK K
    try simp only[Act.put,π,ψ,ω]
    refine q0j 6 b (fun b=>?_)
    try simp only[Act.put,π,ψ,ω]
    refine q2K (by kernel_rfl) ?_
    try simp only[List.drop_succ_cons,List.drop_zero]
    clear b;have L0:=η (z9p Z (B0.o.ext e0.o) (by omega));go_wp2_with fail;refine L0.o.mono ?_;rintro e w8 ⟨rfl,hb,j⟩;have Z0:Hd (BldB (w.heap.size+1) (T++Z) w8):=η hb;have j1:=η ((i1.o.ext e0.o).same (j.block _ (by omega)));have A1:Hd (Ext w w8):=η (Below.trans (y1.o.trans e0.o) (j.mono (by omega)));clear hb j L0;go_wp2_with fail
    go_roundw
    case rel=>exact⟨k+1,T++Z,by omega,by go_num,t0.o,j1.o,Z0.o,by rw[n1.o,s1.o,List.append_assoc],by rw[θ];omega,A1.o⟩
    case measure=>simp[intOf];omega
  ·obtain rfl:k=n:=by omega
   have D1:decide ((k:Int)<(k:Int))=false:=ε (by omega);have u0:Hd (q6P [] L=true):=η (by have:=s0.o;rwa [<-F0.o,List.take_length] at this);have HR:Hd (q6T L=(q0T T,0)):=η (by rw[HE.o,ξ u0.o,d1.o,hT]);have S0:T≠[]:=fun e=>by rw[hT] at e;have:=congrArg List.length e;rw[θ,U0] at this;simp at this
   have K0:=η (y1V j S0);have o1:=η (fun W=>q9S T W (by omega));clear d hm j hT U S0;go_wp2_with fail;refine K0.o.mono ?_;rintro e w3 ⟨rfl,j⟩;have m:Hd (Ext w w3):=η (Below.trans HX.o (j.mono (by omega)));clear j K0;go_wp2_with fail;refine(o1.o _).mono ?_;rintro e w4 ⟨rfl,d⟩;have Q:=η (m.o.trans d);clear d;go_wp2_with fail;go_ret2;exact⟨by rw[HR.o];rfl,Q.o⟩
end
section
open Go.RowKit
def CksIn(φ:Fls)(C:Cks):Prop:= ∀k:Nat,k<=999999->φ (q0C 99 (k:Int))=(C[k]?).map (q0Z k)
def z1y(φ:Fls)(m:Man):Prop:=(φ mapN=some m.S/\0<m.nx)\/(φ mapN=none/\m.nx=0/\m.ck=0/\m.L=[])
def y4Q(nm:List UInt8):Prop:= ∀k:Nat,k<=999999->nm≠q0C 99 (k:Int)
theorem z9A : ∀{a b:List (List UInt8×List UInt8)},q3X Prod.fst a->q3X Prod.fst b->(∀z,z∈a↔z∈b)->a=b
 |[],[],_,_,_=>rfl
 |[],y::b,_,_,h=>absurd ((h y).2 (.head _)) (by simp)
 |x::a,[],_,_,h=>absurd ((h x).1 (.head _)) (by simp)
 | x ::a,y::b,ha,hb,h=>by
  obtain⟨h1,h2⟩:=List.pairwise_cons.1 ha;obtain⟨h3,h4⟩:=List.pairwise_cons.1 hb;have j:x=y:=by
   rcases List.mem_cons.1 ((h x).1 (.head _)) with e|l
   ·exact e
   rcases List.mem_cons.1 ((h y).2 (.head _)) with e|m
   ·exact e.symm
   have:=WideShapes.bytes_trans _ _ _ (h1 y m) (h3 x l);rw[WideAt.bytes_irrefl] at this;cases this
  subst j;rw[z9A h2 h4 fun z=>?_]
  constructor
  ·intro i
   rcases List.mem_cons.1 ((h z).1 (.tail _ i)) with e|d
   ·have:=h1 z i;rw[e,WideAt.bytes_irrefl] at this;cases this
   ·exact d
  ·intro i
   rcases List.mem_cons.1 ((h z).2 (.tail _ i)) with e|d
   ·have:=h3 z i;rw[e,WideAt.bytes_irrefl] at this;cases this
   ·exact d
theorem z5f{l:List (List UInt8×List UInt8)}(h:q3X Prod.fst l)(z:List UInt8×List UInt8):z∈l↔(q0H Prod.fst z.1 l).map Prod.snd=some z.2:=by
 constructor
 ·intro b;rw[q4c h b rfl];rfl
 ·intro b
  cases hf:q0H Prod.fst z.1 l with
  |none=>rw[hf] at b;cases b
  | some y=>
   rw[hf] at b;injection b with b;obtain⟨h1,h2⟩:=q0K hf;have:y=z:=Prod.ext h2 b
   rwa [this] at h1
theorem y1G{a b:List (List UInt8×List UInt8)}(d:q3X Prod.fst a)(i:q3X Prod.fst b)(h: ∀nm,(q0H Prod.fst nm a).map Prod.snd=(q0H Prod.fst nm b).map Prod.snd):a=b:=
 z9A d i fun z=>by rw[z5f d,z5f i,h]
theorem z1Z{d:Type}{r:d->d->Prop}{p:d->Bool}(j: ∀x y,r x y->p y=true->p x=true): ∀{l:List d},l.Pairwise r->l=l.filter p++l.filter (fun y=>!p y)
 |[],_=>rfl
 | x :: l,h=>by
  obtain⟨h1,h2⟩:=List.pairwise_cons.1 h
  cases hx:p x with
  | true=>
   rw[List.filter_cons_of_pos hx,List.filter_cons_of_neg (by simp[hx]),List.cons_append,<-z1Z j h2]
  | false=>
   have i: ∀y∈l,p y=false:=fun y b=>by
    cases hy2:p y with
    |false=>rfl
    |true=>rw[j x y (h1 y b) hy2] at hx;cases hx
   rw [List.filter_cons_of_neg (by simp[hx]),List.filter_cons_of_pos (by simp[hx]),List.filter_eq_nil_iff.2 fun y b=>by simp[i y b],List.nil_append,
    List.filter_eq_self.2 fun y b=>by simp[i y b]]
theorem q8L{i:Type}[DecidableEq i]: ∀{l m:List i},l.Nodup->(∀x∈l,x∈m)->l.length<=m.length
 |[],_,_,_=>υ _
 | x::l,m,h,hm=>by
  obtain⟨h1,h2⟩:=List.nodup_cons.1 h;have b:=hm x (.head _);have h3:=q8L (m:=m.erase x) h2 fun y d=>(List.mem_erase_of_ne (fun e:y=x=>h1 (by rw[<-e];exact d))).2 (hm y (.tail _ d))
  rw[List.length_erase_of_mem b] at h3;have:=List.length_pos_of_mem b;rw[χ];omega
theorem q6O(d:k<=999999):bytesBefore [99] (q0C 99 (k:Int))=true/\bytesBefore (q0C 99 (k:Int)) [100]=true/\bytesBefore (q0C 99 (k:Int)) [99]=false:=by
 rw[q0X (by omega)];have b:=q0l 6 ((k:Int)).toNat
 cases hd:q5m 6 ((k:Int)).toNat with
 |nil=>rw[hd] at b;cases b
 |cons a r=>exact⟨by simp[bytesBefore],by simp[bytesBefore],by simp[bytesBefore]⟩
theorem z2J{n:Int}(b:0<=n/\n<=999999):bytesBefore (q0C 98 n) [99]=true/\bytesBefore (q0C 116 n) [100]=false/\bytesBefore (q0C 116 n) [99]=false:=by
 rw[q0X b,q0X b];exact⟨by simp[bytesBefore],by simp[bytesBefore],by simp[bytesBefore]⟩
theorem before_map :bytesBefore mapN [100]=false/\bytesBefore mapN [99]=false:=by decide
section
variable {st :IxSt}{σ σ':DM}{c s:Int}{φ:Fls}{u cnt:Nat}{B:List En}{C C':Cks}{E:Oth}
theorem z4z : ∀(C:Cks) (i:Nat),i+C.length<=999999->q3X Prod.fst (q4p i C)
 |[],_,_=>List.Pairwise.nil
 | ps::r,i,h=>by
  rw[χ] at h;refine List.pairwise_cons.2 ⟨fun y b=>?_,z4z r (i+1) (by omega)⟩;obtain⟨j,h1,h2,h3⟩:=q4C b;rw[h3];exact q7d (by omega) (by omega) (by omega)
theorem z4y{C:Cks}(b:C.length<=200)(d:k<=999999):(q0H Prod.fst (q0C 99 (k:Int)) (q4p 0 C)).map Prod.snd=(C[k]?).map (q0Z k):=by
 rcases Nat.lt_or_ge k C.length with h|h
 ·rw[z2P b (γ h),γ h];rfl
 ·rw[z2Q b h d,List.getElem?_eq_none h];rfl
theorem q9V(h:PInv st σ c s φ u cnt B)(hc:CksIn φ C)(S:okC C):
  ∃E,Lgd E σ (c-(q2s E:Int)) s C/\(∀nm,y4Q nm->(q0H Prod.fst nm (E.X++E.Z)).map Prod.snd=φ nm)/\q2s E+q1A C<=u/\E.X.length+C.length+E.Z.length<=cnt:=by
 obtain⟨l,f0,d,G,l0,k0⟩:=h.fl;have J: ∀y∈l,φ y.1≠none:=fun y b e=>by
  have:=G y.1;rw[q4c d b rfl,e] at this;cases this
 have O:=z1Z (r:=fun x y:List UInt8×List UInt8=>bytesBefore x.1 y.1=true) (p:=fun y:List UInt8×List UInt8=>bytesBefore y.1 [99]) (fun x y h1 h2=>WideShapes.bytes_trans _ _ _ h1 h2) d;have hr:=d.filter (p:=fun y:List UInt8×List UInt8=>!bytesBefore y.1 [99]);have p2:=z1Z (r:=fun x y:List UInt8×List UInt8=>bytesBefore x.1 y.1=true) (p:=fun y:List UInt8×List UInt8=>bytesBefore y.1 [100]) (fun x y h1 h2=>WideShapes.bytes_trans _ _ _ h1 h2) hr;obtain⟨X,hX⟩: ∃X,l.filter (fun y=>bytesBefore y.1 [99])=X:=⟨_,rfl⟩
 obtain⟨R,hR⟩: ∃R,l.filter (fun y=>!bytesBefore y.1 [99])=R:=⟨_,rfl⟩
 obtain⟨M,hM⟩: ∃M,R.filter (fun y=>bytesBefore y.1 [100])=M:=⟨_,rfl⟩
 obtain⟨Z,hZ⟩: ∃Z,R.filter (fun y=>!bytesBefore y.1 [100])=Z:=⟨_,rfl⟩
 rw[hX,hR] at O;rw[hR,hM,hZ] at p2;rw[p2] at O;have mX: ∀y,y∈X↔y∈l/\bytesBefore y.1 [99]=true:=fun y=>by rw[<-hX,List.mem_filter]
 have mR: ∀y,y∈R↔y∈l/\bytesBefore y.1 [99]=false:=fun y=>by rw[<-hR,List.mem_filter];simp
 have mM: ∀y,y∈M↔y∈l/\bytesBefore y.1 [99]=false/\bytesBefore y.1 [100]=true:=fun y=>by rw[<-hM,List.mem_filter,mR];simp[and_assoc]
 have mZ: ∀y,y∈Z↔y∈l/\bytesBefore y.1 [99]=false/\bytesBefore y.1 [100]=false:=fun y=>by rw[<-hZ,List.mem_filter,mR];simp[and_assoc]
 have i: ∀n∈st.m.L.flatten,0<=n/\n<=999999:=fun n o=>by have:=h.range o;omega
 have Q: ∀y,y∈X\/y∈Z->y.1=mapN\/ ∃n∈st.m.L.flatten,y.1=q0C 116 n\/y.1=q0C 98 n:=fun y b=>by
  have U:y∈l:=b.elim (fun h=>((mX y).1 h).1) fun h=>((mZ y).1 h).1
  rcases h.only y.1 (J y U) with e|e|⟨k,D,e⟩
  ·exact .inl e
  ·exact .inr e
  ·exfalso
   obtain⟨_,b2,b3⟩:=q6O D;rcases b with b|b
   ·have:=((mX y).1 b).2;rw[e,b3] at this;cases this
   ·have:=((mZ y).1 b).2.2;rw[e,b2] at this;cases this
 have b0: ∀y∈M,∃k:Nat,k<=999999/\y.1=q0C 99 (k:Int):=fun y b=>by
  obtain⟨U,q1,q2⟩:=(mM y).1 b;rcases h.only y.1 (J y U) with e|⟨n,o,e|e⟩|e
  ·rw[e,before_map.1] at q2;cases q2
  ·rw[e,(z2J (i n o)).2.1] at q2;cases q2
  ·rw[e,(z2J (i n o)).1] at q1;cases q1
  ·exact e
 have N:=d;rw[O] at N;obtain⟨oX,g0,_⟩:=List.pairwise_append.1 N;obtain⟨oM,oZ,_⟩:=List.pairwise_append.1 g0;have a0:M=q4p 0 C:=y1G oM (z4z C 0 (by have:=S.few;omega)) fun nm=>by
  by_cases I: ∃k:Nat,k<=999999/\nm=q0C 99 (k:Int)
  ·obtain⟨k,D,rfl⟩:=I
   rw[z4y S.few D,<-hc k D,<-G];obtain⟨_,b2,b3⟩:=q6O D;rw[O,q0o fun y b e=>?_,q1j fun y b e=>?_]
   ·have:=((mZ y).1 b).2.2;rw[show y.1=q0C 99 (k:Int) from e,b2] at this;cases this
   ·have:=((mX y).1 b).2;rw[show y.1=q0C 99 (k:Int) from e,b3] at this;cases this
  ·rw [q0f fun y b e=>I (by obtain⟨k,D,e2⟩:=b0 y b;exact⟨k,D,by rw[<-e2];exact e.symm⟩),q0f fun y b e=>I (by
    obtain⟨j,h1,h2,h3⟩:=q4C b
    exact⟨j,by have:=S.few;omega,by rw[<-h3];exact e.symm⟩)]
 rw[a0] at O;have d0:=h.noNew;have j0:q1u l=q2s ⟨X,Z⟩+q1A C:=by
  rw[O,q1c,q1c,q6S];unfold q2s;simp only;omega
 have i0:l.length=X.length+C.length+Z.length:=by rw[O];simp[q5v];omega
 refine⟨⟨X,Z⟩,⟨?_,S,⟨fun y b k D=>?_,fun y b k D=>?_,fun y b e=>?_,fun y b hp=>?_,fun y b=>?_,?_⟩⟩,fun nm I=>?_,by omega,by simp only;omega⟩
 ·rw[show c-(q2s ⟨X,Z⟩:Int)+(q2s ⟨X,Z⟩:Int)=c by omega]
  show Pl σ c s (X++(q4p 0 C++Z));rw[<-O];exact f0
 ·exact WideShapes.bytes_trans _ _ _ ((mX y).1 b).2 (q6O D).1
 ·by_cases q:y.1=[100]
  ·rw[q];exact(q6O D).2.1
  ·rcases WideAt.bytes_total y.1 [100] q with q|q
   ·rw[((mZ y).1 b).2.2] at q;cases q
   ·exact WideShapes.bytes_trans _ _ _ (q6O D).2.1 q
 ·have U:y∈l:=b.elim (fun h=>((mX y).1 h).1) fun h=>((mZ y).1 h).1
  exact J y U (by rw[e];exact d0)
 ·rcases Q y b with e|⟨n,o,e|e⟩
  ·rw[e] at hp;exact absurd hp (by decide)
  ·rw[e,q2Y q9E (i n o)];exact(by decide:(116:UInt8)≠99)
  ·rw[e,q2Y z9q (i n o)];exact(by decide:(98:UInt8)≠99)
 ·rcases Q y b with e|⟨n,o,e|e⟩
  ·rw[e];decide
  ·rw[e,q0X (i n o),χ,q0l];decide
  ·rw[e,q0X (i n o),χ,q0l];decide
 ·have c0:((X++Z).map Prod.fst).Nodup:=by
   have ho:q3X Prod.fst (X++Z):=by
    rw[O] at d;exact d.sublist (List.Sublist.append (List.Sublist.refl X) (List.sublist_append_right _ _))
   exact List.pairwise_map.2 (z2s ho)
  have hb:=Man.bounds h.man;have:=q8L (m:=mapN::(st.m.L.flatten.map (q0C 116)++st.m.L.flatten.map (q0C 98))) c0 fun x hx=>by
   obtain⟨y,b,rfl⟩:=List.mem_map.1 hx;rcases Q y (List.mem_append.1 b) with e|⟨n,o,e|e⟩
   ·rw[e];exact .head _
   ·rw[e];exact .tail _ (List.mem_append.2 (.inl (List.mem_map.2 ⟨n,o,rfl⟩)))
   ·rw[e];exact .tail _ (List.mem_append.2 (.inr (List.mem_map.2 ⟨n,o,rfl⟩)))
  simp only[List.length_map,θ,χ] at this;simp only;omega
 ·rw [<-G,O]
  show(q0H Prod.fst nm (X++Z)).map Prod.snd=_;have e0: ∀y∈q4p 0 C,Prod.fst y≠nm:=fun y b e=>by
   obtain⟨j,h1,h2,h3⟩:=q4C b;exact I j (by have:=S.few;omega) (by rw[<-h3];exact e.symm)
  unfold q0H;rw[List.find?_append,List.find?_append,List.find?_append];have h0:List.find? (fun y=>Prod.fst y==nm) (q4p 0 C)=none:=q0f e0;rw[h0];simp
theorem PInv.relog(h:PInv st σ c s φ u cnt B)(S: ∀nm,y4Q nm->(q0H Prod.fst nm (E.X++E.Z)).map Prod.snd=φ nm)(G:Lgd E σ' (c-(q2s E:Int)) s C')(ho:okD σ'){u' cnt':Nat}(hu:q2s E+q1A C'<=u')(I:E.X.length+C'.length+E.Z.length<=cnt'):
  ∃o,PInv st σ' c s o u' cnt' B/\CksIn o C'/\ ∀nm,y4Q nm->o nm=φ nm:=by
 have l:=G.pl;rw[show c-(q2s E:Int)+(q2s E:Int)=c by omega] at l;have b: ∀nm,y4Q nm->(q0H Prod.fst nm (q3y E C')).map Prod.snd=φ nm:=fun nm d=>by
  rw[<-S nm d];have O: ∀y∈q4p 0 C',Prod.fst y≠nm:=fun y hy e=>by
   obtain⟨j,h1,h2,h3⟩:=q4C hy;exact d j (by have:=G.ok.few;omega) (by rw[<-h3];exact e.symm)
  unfold q0H q3y;rw[List.find?_append,List.find?_append,List.find?_append];have R:List.find? (fun y=>Prod.fst y==nm) (q4p 0 C')=none:=q0f O;rw[R];simp
 have N: ∀k:Nat,k<=999999->(q0H Prod.fst (q0C 99 (k:Int)) (q3y E C')).map Prod.snd=(C'[k]?).map (q0Z k):=fun k q=>by
  rw[<-z4y G.ok.few q];unfold q3y;rw[q0o (G.oth.neX q),q1j (G.oth.neZ q)]
 have J: ∀D:UInt8,(D=116\/D=98)-> ∀n:Int,0<=n/\n<=999999->y4Q (q0C D n):=fun D hc n I k q e=>by
  have U:q2O D=true:=by rcases hc with rfl|rfl<;>decide
  have:=(q1x U y2o I (by omega) e).1;rcases hc with rfl|rfl<;>exact absurd this (by decide)
 have i: ∀n∈st.m.L.flatten,0<=n/\n<=999999:=fun n I=>by have:=h.range I;omega
 refine⟨fun nm=>(q0H Prod.fst nm (q3y E C')).map Prod.snd,⟨⟨q3y E C',l,l.ord ho,fun _=>rfl,by rw[q8c];exact hu,by rw[q8b];exact I⟩,h.man,h.full,fun n e he=>?_,fun nm d=>?_,h.okw,h.okB,h.mem⟩,N,b⟩
 ·obtain⟨Q,t1,⟨y,t2⟩,t3,t4⟩:=h.tb n e he
  exact⟨Q,(b _ (J 116 (.inl rfl) n (i n Q))).trans t1,⟨y,(b _ (J 98 (.inr rfl) n (i n Q))).trans t2⟩,t3,t4⟩
 ·by_cases hc: ∃k:Nat,k<=999999/\nm=q0C 99 (k:Int)
  ·exact .inr (.inr hc)
  ·exact h.only nm (by rw[<-b nm fun k q e=>hc ⟨k,q,e⟩];exact d)
end
end
section
open Go.RowKit Go.Maps
def DkX(wb W:World)(g:Nat)(σ:DM)(K:Nat->Prop):Prop:= ∃F,DkF wb W g F σ K
def q3t :DM->List Int->(Int->Option (List En))->(Int->Option (List En))×Int×DM
 |σ,[],acc=>(acc,0,σ)
 | σ,n::ns,acc=>match q5J σ n with
  |(none,e,τ)=>(acc,e,τ)
  |(some L,_,τ)=>q3t τ ns (fun x=>if x=n then some L else acc x)
def z1x(wb w:World)(g:Nat)(m:Man)(rate:Nat)(K:Nat->Prop)(σ:DM)(e:Ending)(w':World):Prop:=
 (q0c m.nx m.ck m.L=false/\e= .returned (.tuple #[.pointer none,.int .i64 2])/\DkX wb w' g σ K/\Stay K w w')\/
 (q0c m.nx m.ck m.L=true/\σ.down=true/\e= .returned (.tuple #[.pointer none,.int .i64 61])/\DkX wb w' g σ K/\Stay K w w')\/
 (q0c m.nx m.ck m.L=true/\σ.down=false/\(q3t σ m.L.flatten (fun _=>none)).2.1≠0/\e= .returned (.tuple #[.pointer none,.int .i64 (q3t σ m.L.flatten (fun _=>none)).2.1])/\DkX wb w' g (q3t σ m.L.flatten (fun _=>none)).2.2 K/\Stay K w w')\/
 (q0c m.nx m.ck m.L=true/\σ.down=false/\(q3t σ m.L.flatten (fun _=>none)).2.1=0/\ ∃gx t,e= .returned (.tuple #[.pointer (some ⟨gx,0,none⟩),.int .i64 0])/\
  IxK wb w' g gx ⟨m,rate,[],t,m.L.flatten.length⟩ (q3t σ m.L.flatten (fun _=>none)).2.2 K/\Stay K w w'/\ ∀n,(t n).map TE.L=(q3t σ m.L.flatten (fun _=>none)).1 n)
section
variable {wb w0 w W W1 w1 w2:World}{g gx gm gt B:Nat}{st st1:IxSt}{F Y Y1 K K' V T:Nat->Prop}{σ σ1:DM}{va v v1 v2 vm:Value}{vs:List Value}{ns:List Int}{acc:List (List En)}{M L:List En}
theorem IxI.putO{D:DataW Unit}{I:Nat}(h:IxI w gx g gm gt st v vs vm D I Y){n:Int}{t:Nat}{may:Int->Bool}
  (J:w2.ownsMap Tryz.prog 3 q5i gt (I+1) (D.put (.int .i64 n) (.lit (.int .i64 t))))(d:OffS (fun i=>i=gt) w w2)
  (y:Tb w t g n L may T)(N: ∀i,T i->¬InX gx gm gt i):
  IxI w2 gx g gm gt ⟨st.m,st.rate,st.w,(fun x=>if x=n then some ⟨t,L,may⟩ else st.t x),st.c+1⟩ v vs vm (D.put (.int .i64 n) (.lit (.int .i64 t))) (I+1) (fun i=>Y i\/T i):=by
 have G: ∀i,i<w.heap.size->i≠gt->w2.heap[i]? =w.heap[i]? :=fun i b o=>d.block i b o
 have j: ∀i,(Y i\/T i)->i<w.heap.size/\¬InX gx gm gt i:=fun i b=>by
  rcases b with b|b
  ·exact⟨h.lt i b,h.apart i b⟩
  ·exact⟨y.lt i b,N i b⟩
 have l: ∀i,(Y i\/T i)->w2.heap[i]? =w.heap[i]? :=fun i b=>G i (j i b).1 fun e=>(j i b).2 (.inr (.inr e))
 refine⟨h.blk.same (G _ h.blk.lt h.ne.2.1),?_,q2i h.lev fun i b=>l i (.inl (h.inY i (b.elim .inl fun e=> .inr (.inl e)))),J,Nat.succ_le_succ h.cnt,fun x=>?_,fun x e o=>?_,fun i b=> .inl (h.inY i b),fun i b=>Ψ (j i b).1 d.size,fun i b=>(j i b).2,h.ne⟩
 ·refine h.mem.same fun i b=>?_
  rcases b with rfl|b
  ·exact G _ h.mem.blk.lt h.ne.2.2
  ·exact l i (.inl (h.inY i (.inr (.inr b))))
 ·exact z5a (e:=⟨t,L,may⟩) h.look h.map.isMap x
 ·simp only at o
  by_cases q:x=n
  ·rw[ξ q] at o
   injection o with o;subst o;subst q;exact(y.same d.size fun i b=>l i (.inr b)).mono (fun i b=> .inr b) fun i b=>Ψ (j i b).1 d.size
  ·rw[κ q] at o
   exact((h.tab x e o).same d.size fun i b=>l i (.inl b)).mono (fun i b=> .inl b) fun i b=>Ψ (j i b).1 d.size
theorem z8c(h : DkF wb w g F σ K){m:Man}(hG:Grid w ao m.L.length cap m.L)(E1:m.L.flatten.length<=1000000000)(B1: ∀x∈m.L.flatten,(Lit.int .i64 x).wf=true)(x1:0<=m.sd)(y1:m.sd<18446744073709551616)(rate:Nat):
  Calls Tryz.prog 113 #[.pointer (some ⟨g,0,none⟩),.agg #[.int .i64 m.nx,.int .i64 m.ck,.int .u64 m.sd,.slice ao m.L.length cap],.float .f64 rate] w (z1x wb w g m rate K σ):=by
 have HD:=η h;have r0:=q0B w (.cells #[.int .i64 m.nx,.int .i64 m.ck,.int .u64 m.sd,.slice ao m.L.length cap] 182);have Y0:=Blk.new w 182 #[.int .i64 m.nx,.int .i64 m.ck,.int .u64 m.sd,.slice ao m.L.length cap];have U:=η (q7s (h.d.ext r0) [] (by decide));have hc: ∃z c,q1o σ []=(z,c)/\(c==1)=false/\((c==61)=σ.down)/\(σ.down=true->c=61):=by
  unfold q1o
  cases σ.down with
  |true=>exact⟨_,_,rfl,rfl,rfl,fun _=>rfl⟩
  | false=>
   simp only[Bool.false_eq_true,if_false]
   split
   ·exact⟨_,_,rfl,rfl,rfl,fun h=>by cases h⟩
   ·exact⟨_,_,rfl,rfl,rfl,fun h=>by cases h⟩
 obtain⟨z,c,hz,r1,E0,F0⟩:=hc;rw[hz] at U;have HV:=η (z1S m.nx m.ck m.sd ao m.L.length cap m.L _ (hG.ext r0) (by omega) B1);have HG:=η hG;have g0:=η r0;have I:=η Y0;obtain⟨w1,A1⟩: ∃w1,w.alloc (.cells #[.int .i64 m.nx,.int .i64 m.ck,.int .u64 m.sd,.slice ao m.L.length cap] 182)=w1:=⟨_,rfl⟩
 rw[A1] at U HV g0 I;obtain⟨p,hp⟩: ∃p,w.heap.size=p:=⟨_,rfl⟩
 have HP:=η hp;rw[hp] at I;have b0:w1.cell? ⟨p,0,none⟩=some (.int .i64 m.nx):=I.o.cell 0;have b1:w1.cell? ⟨p,1,none⟩=some (.int .i64 m.ck):=I.o.cell 1;have b2:w1.cell? ⟨p,2,none⟩=some (.int .u64 m.sd):=I.o.cell 2;have b3:w1.cell? ⟨p,3,none⟩=some (.slice ao m.L.length cap):=I.o.cell 3;have J0:=@run_makeMap Tryz.prog;clear h r0 Y0 hz hG
 cases hv:q0c m.nx m.ck m.L with
 | false=>
  rw[hv] at HV;have X:=η hv;clear hv;go_enter Tryz.func113,Tryz.ntmps113;go_wp2_with fail;refine U.o.mono ?_;rintro e w2 ⟨rfl,rfl⟩;go_wp2_with fail;refine HV.o.mono ?_;rintro e w2 ⟨rfl,l⟩;have y:=η (g0.o.trans l);clear l;go_wp2_with fail;go_ret2;exact .inl ⟨X.o,rfl,⟨F,HD.o.grow y.o⟩,fun i b=>y.o.block i (HD.o.k i b).1⟩
 | true =>
  rw[hv] at HV;have X:=η hv;clear hv
  cases hdn:σ.down with
  | true=>
   rw[hdn] at E0;obtain rfl:=F0 hdn;have m0:=η hdn;clear hdn F0;go_enter Tryz.func113,Tryz.ntmps113;go_wp2_with fail;refine U.o.mono ?_;rintro e w2 ⟨rfl,rfl⟩;go_wp2_with fail;refine HV.o.mono ?_;rintro e w2 ⟨rfl,l⟩;have y:=η (g0.o.trans l);clear l;go_wp2_with fail;go_ret2;exact .inr (.inl ⟨X.o,m0.o,rfl,⟨F,HD.o.grow y.o⟩,fun i b=>y.o.block i (HD.o.k i b).1⟩)
  | false =>
   rw[hdn] at E0;have m0:=η hdn;have k0:m.ok:=⟨X.o,x1,y1⟩
   have q0:=Man.bounds k0;clear hdn F0;go_enter Tryz.func113,Tryz.ntmps113;go_wp2_with fail;refine U.o.mono ?_;rintro e w2 ⟨rfl,rfl⟩;go_wp2_with fail;refine HV.o.mono ?_;rintro e w2 ⟨rfl,l⟩;have y:=η (g0.o.trans l);have b0:=q0A l b0;have b1:=q0A l b1;have b2:=q0A l b2;have b3:=q0A l b3;have M0:=η (I.o.ext l);clear l;go_wp2_with fail;refine(q8H m.nx m.ck m.sd ao m.L.length cap m.L w2 (HG.o.ext y.o) (fun i=>by have:=q0.2.2.1 i;omega) (by omega)).mono ?_;rintro e w3 ⟨v3,t0,rfl,l0,W0⟩;have A0:=η l0;have o0:=η W0;obtain⟨a3,k3,rfl⟩:=l0.own.slice;clear l0 W0;go_wp2_with fail;refine(y4J w3).mono ?_;rintro e S ⟨gm,rfl,J,t1,D0⟩;have z0:=η J;have p0:=η D0;have b3:=q0A D0 (q0A o0.o b3);clear J D0;obtain⟨O,h0⟩: ∃O,(S.alloc (.map #[] 0)).alloc (.cells #[.pointer (some ⟨g,0,none⟩),.int .i64 m.nx,.int .i64 m.ck,.int .u64 m.sd,.slice a3 m.L.length k3,.float .f64 rate,.pointer (some ⟨gm,0,none⟩),.map (some S.heap.size)] 195)=O:=⟨_,rfl⟩
   have Z:Hd (Ext S O):=η (h0▸q6f _ _ _)
   have L0:Hd (Blk O (S.heap.size+1) 195 #[.pointer (some ⟨g,0,none⟩),.int .i64 m.nx,.int .i64 m.ck,.int .u64 m.sd,.slice a3 m.L.length k3,.float .f64 rate,.pointer (some ⟨gm,0,none⟩),.map (some S.heap.size)]):=η (by
    have h:=Blk.new (S.alloc (.map #[] 0)) 195 #[.pointer (some ⟨g,0,none⟩),.int .i64 m.nx,.int .i64 m.ck,.int .u64 m.sd,.slice a3 m.L.length k3,.float .f64 rate,.pointer (some ⟨gm,0,none⟩),.map (some S.heap.size)];rw[ρ,h0] at h
    exact h)
   have P0:Hd (O.ownsMap Tryz.prog 3 q5i S.heap.size 0 (.map [])):=η (h0▸(World.ownsMap_made (H:=Unit) S Tryz.prog 3 q5i).alloc _);have m1:Hd (O.heap.size=S.heap.size+2):=η (by rw[<-h0,ρ,ρ]);have n1:=q0A Z.o b3;have a0:=η (((y.o.trans o0.o).trans p0.o).trans Z.o);have s1:gm<S.heap.size:=z0.o.blk.lt
   have O0:Hd (IxK wb O g (S.heap.size+1) ⟨m,rate,[],(fun _=>none),0⟩ σ K):=η (by
    have hD:=HD.o;have F1:=y.o.size;have G1:=o0.o.size;have H1:=p0.o.size;have J1:=hD.ext.size;have u1:OGr O w2.heap.size 73 3 (.slice a3 m.L.length k3) t0 m.L:=(A0.o.ext p0.o).ext Z.o;have D: ∀i,((Value.slice a3 m.L.length k3).ownBlock=some i\/ ∃q,(t0.getD q (.slice none 0 0)).ownBlock=some i)->w2.heap.size<=i/\i<w3.heap.size:=fun i b=>q5I A0.o i b
    refine⟨F,gm,S.heap.size,fun i=>((Value.slice a3 m.L.length k3).ownBlock=some i\/ ∃q,(t0.getD q (.slice none 0 0)).ownBlock=some i),⟨hD.d.ext a0.o,⟨⟨k0,okM.nil,υ _⟩,.slice a3 m.L.length k3,t0,.slice none 0 0,.map [],0,⟨L0.o,z0.o.ext Z.o,q6q u1 (υ _),P0.o,ι _,fun n=>rfl,fun n e he=>(by cases he),fun i b=>?_,fun i b=>Ψ (D i b).2 (by have:=Z.o.size;omega),fun i b hx=>?_,⟨by omega,by omega,by omega⟩⟩⟩,fun i b=>?_⟩,hD.bF,fun i b=>?_,fun i b=>by have:=D i b;omega,hD.ext.trans a0.o,fun i b=>?_⟩
    ·rcases b with b|b|b
     ·exact .inl b
     ·exact .inr b
     ·cases b
    ·have h1:=D i b
     rcases hx with rfl|rfl|rfl<;>omega
    ·have h1:=hD.d.Flt i b
     exact⟨fun hx=>by rcases hx with rfl|rfl|rfl<;>omega,fun hy=>by have:=D i hy;omega⟩
    ·rcases b with rfl|rfl|rfl<;>omega
    ·have h1:=hD.k i b
     have h2:=a0.o.size
     exact⟨by omega,h1.2,fun hx=>by rcases hx with rfl|rfl|rfl<;>omega,fun hy=>by have:=D i hy;omega⟩)
   have K0:=η (z2F ao m.L.length cap m.L O (HG.o.ext a0.o) (by omega));have p1: ∀i,K i->i<w.heap.size:=fun i b=>(HD.o.k i b).1
   have f0:Hd (Stay K w O):=η fun i b=>a0.o.block i (p1 i b)
   clear J0;have J0:=@run_makeMap Tryz.prog;go_wp2_with fail;refine K0.o.mono ?_;rintro e w5 ⟨va,rfl,Q,X0⟩;obtain⟨aa,ka,rfl⟩:=Q.slice;obtain⟨ns,d0⟩: ∃ns,m.L.flatten=ns:=⟨_,rfl⟩
   have l1:=η d0;rw[d0] at Q;have y0:=η (LsW.start O0.o (W:=w5) X0 Q);rw[d0];obtain⟨R,hR⟩: ∃R,q3t σ ns (fun _=>none)=R:=⟨_,rfl⟩
   have HR:=η hR
   have u0:Hd (∀e w',((R.2.1≠0/\e= .returned (.tuple #[.pointer none,.int .i64 R.2.1])/\DkX wb w' g R.2.2 K/\Stay K O w')\/(R.2.1=0/\ ∃gx t,e= .returned (.tuple #[.pointer (some ⟨gx,0,none⟩),.int .i64 0])/\IxK wb w' g gx ⟨m,rate,[],t,ns.length⟩ R.2.2 K/\Stay K O w'/\ ∀n,(t n).map TE.L=R.1 n))->z1x wb w g m rate K σ e w'):=η (by
    intro e w' h;unfold z1x;rw[d0,hR];rcases h with⟨q1,q2,q3,q4⟩|⟨q1,gx,t,q2,q3,q4,q5⟩
    ·exact .inr (.inr (.inl ⟨X.o,m0.o,q1,q2,q3,f0.o.trans q4⟩))
    ·exact .inr (.inr (.inr ⟨X.o,m0.o,q1,gx,t,q2,q3,f0.o.trans q4,q5⟩)))
   obtain⟨n,hn⟩: ∃n,ns.length=n:=⟨_,rfl⟩
   have e0:=η hn;have D1:n<=40:=by rw[<-hn,<-d0];exact q0.2.1
   have j1:=η q0;obtain⟨gx,G0⟩: ∃gx,S.heap.size+1=gx:=⟨_,rfl⟩
   rw[hn] at y0;rw[G0] at y0;rw[hn];simp only[G0];clear Q X0 d0 hn K0 g0 y o0 p0 Z L0 P0 m1 n1 b0 b1 b2 b3 a0 O0 z0 A0 J0 hR q0 HV U HG I M0 HP f0 r1 E0 h0 s1 t1 G0;go_wp2_with fail
   go_loopw [44] (fun i W=> ∃(k:Nat) (t:Int->Option TE) (acc:Int->Option (List En)) (τ:DM),k<=n/\i= .int .i64 (k:Int)/\LsW wb O W g gx ⟨m,rate,[],t,k⟩ τ K (.slice aa n ka) (.slice none 0 0) [] ns [] O.heap.size/\(∀x,(t x).map TE.L=acc x)/\q3t τ (ns.drop k) acc=R) (fun i _=>n-(intOf i).toNat)
   case atStart=>exact⟨0,fun _=>none,fun _=>none,σ,υ _,rfl,y0.o,fun x=>rfl,HR.o⟩
   case round =>
    obtain⟨k,tt,acc,τ,hk,rfl,d1,g1,j⟩:=hrel;have HL:=η d1;have Q0:=η j;have R0:=η g1;clear d1 j g1;by_cases D:k<n
    ·have hd:decide ((k:Int)<(n:Int))=true:=ζ (by omega)
     have q1:IntKind.i64.wrap ((k:Int)+1)=(k:Int)+1:=by rw[ν];omega
     have q5:(k:Int)<(n:Int):=by omega
     obtain⟨_,_,ea,H0⟩:=q2H HL.o.all;rw[e0.o] at ea
     cases ea;rw[e0.o] at H0;obtain⟨ba,oa,rfl,n0⟩:=H0.at D;have I0:k<ns.length:=by rw[e0.o];exact D
     have i0:ns.drop k=ns.getD k 0::ns.drop (k+1):=by
      rw[List.drop_eq_getElem_cons I0,δ,γ I0];rfl
     have J:ns.getD k 0∈m.L.flatten:=by rw[l1.o];exact q3a ns k I0
     have j:=Q0.o;rw[i0] at j;have i1:=(j1.o.2.2.2.1 _ J).1;generalize ns.getD k 0=nk at*;rw[q3t] at j;obtain⟨F2,o1,T0,Y2,h2⟩:=HL.o.i;have B0:=η (z9J h2.i.d nk);have N0:=η h2;obtain⟨r,hr⟩: ∃r,q5J τ nk=r:=⟨_,rfl⟩
     rw[hr] at j B0;obtain⟨o,c,C1⟩:=r;clear H0 i0 J h2
     cases o with
     | none=>
      simp only at j;have hc:=z1X hr;have g2:(c !=0)=true:=by simpa using hc
      have C0:=η j;have HC:=η hc;clear hr j hc;go_wp2_with fail;refine B0.o.mono ?_;rintro e3 w3 ⟨rfl,c0⟩;obtain⟨h3,N⟩:=N0.o.disk c0
      have HE:Hd (z1x wb w g m rate K σ (.returned (.tuple #[.pointer none,.int .i64 c])) w3):=η (u0.o _ _ (.inl (by
       rw[<-C0.o]
       exact⟨HC.o,rfl,⟨_,h3.i.d,h3.bF,h3.ext,fun i b=>⟨(h3.k i (.inl b)).1,(h3.k i (.inl b)).2.1⟩⟩,HL.o.stay.trans fun i b=>N i (.inl b)⟩)))
      clear c0 h3 N;go_wp2_with fail;go_ret2;exact HE.o
     | some L=>
      simp only at j;obtain rfl:=z0X hr;have C0:=η j;clear hr j;go_wp2_with fail;refine B0.o.mono ?_;rintro e3 w7 ⟨t,may,T,w6,rfl,c0,s0,f1,hT⟩;obtain⟨h3,N⟩:=N0.o.disk c0;have h7:=h3.grow s0;have v0:Stay (fun i=>K i\/z3Y (.slice (some ⟨ba,oa,none⟩) n ka) (.slice none 0 0) [] i) wr w7:=N.trans (h3.kExt s0);obtain⟨e1,v7,M1,L1,D7,K1,j0⟩:=h7.i.x;have c7:=j0.c7;have Z0:=j0.cnt;simp only at Z0;obtain⟨w8,z1,U0,a1⟩:=j0.map.update Tryz.keyInt Tryz.underlying193 (by unfold maxLen;omega) (keyOf_int_mk Tryz.underlying3 i1) (z1b t);have G:OffS (fun i=>i=T0) w7 w8:=OffS.grown a1 fun i b=>by injection b with b;exact b.symm
      have V0: ∀i,T i->¬InX gx o1 T0 i:=fun i b hx=>by have:=hT i b;have:=h3.i.x.xlt i hx;omega
      have c1:=j0.putO U0 G f1 V0
      obtain⟨h8,x0⟩:=h7.turnV (K:=fun i=>K i\/z3Y (.slice (some ⟨ba,oa,none⟩) n ka) (.slice none 0 0) [] i) (st1:=⟨m,rate,[],(fun x=>if x=nk then some ⟨t,L,may⟩ else tt x),k+1⟩) (Y1:=fun i=>Y2 i\/T i) ⟨⟨k0,okM.nil,by show k+1<=1000000;omega⟩,_,_,_,_,_,c1⟩ (G.mono fun i _ b=> .inr (.inr b)) (fun i b=>by
       rcases b with b|b
       ·exact⟨h7.bY i b,fun hf=>(h7.i.ap i hf).2 b⟩
       ·have h9:=hT i b
        exact⟨by have:=h3.ext.size;omega,fun hf=>by have:=h3.i.d.Flt i hf;omega⟩) (fun i b=>⟨b,fun hy=>by
       rcases hy with hy|hy
       ·exact(h7.k i b).2.2.2 hy
       ·have:=hT i hy;have:=(h3.k i b).1;omega⟩)
      have k1:=η (HL.o.step ⟨_,_,_,_,h8⟩ (v0.trans x0) (by have:=c0.off.size;have:=s0.size;have:=G.size;omega));have S0:Hd (∀x,(if x=nk then some (⟨t,L,may⟩:TE) else tt x).map TE.L=if x=nk then some L else acc x):=η fun x=>by
       by_cases hx:x=nk
       ·rw[ξ hx,ξ hx];rfl
       ·rw[κ hx,κ hx];exact R0.o x
      have I1:=η z1;clear c0 h3 N h7 v0 e1 j0 U0 a1 G V0 c1 h8 x0 f1 hT s0 Z0;go_wp2_with fail
      go_roundw
      case rel=>exact⟨k+1,_,_,C1,D,by go_num,k1.o,S0.o,C0.o⟩
      case measure=>simp[intOf];omega
    ·obtain rfl:k=n:=by omega
     have hd:decide ((k:Int)<(k:Int))=false:=ε (by omega);have j:=Q0.o;rw[List.drop_of_length_le (by rw[e0.o];exact ι _),q3t] at j
     have HE:Hd (z1x wb w g m rate K σ (.returned (.tuple #[.pointer (some ⟨gx,0,none⟩),.int .i64 0])) wr):=η (u0.o _ _ (.inr (by
      rw[<-j]
      exact⟨rfl,gx,tt,rfl,by rw[e0.o];exact HL.o.i.beside fun i b=> .inl b,HL.o.stay,R0.o⟩)))
     clear j;go_wp2_with fail;go_ret2;exact HE.o
end
end
section
open Go.RowKit
end
end Go.Proofs.YteabhdclmodefaaGreatDoor
