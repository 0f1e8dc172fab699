/- Walks. -/
import Derived.Test.YteabhdclmodefaaGreatDoorG4CX
import Derived.Test.YteabhdclmodefaaGreatDoorG5CX
import Derived.Laws.ResultCell
import Derived.WalkSpells
set_option linter.unusedVariables false
set_option linter.unusedSimpArgs false
set_option maxRecDepth 100000
set_option maxHeartbeats 1600000
namespace Go.Proofs.YteabhdclmodefaaGreatDoor
section
open Go.RowKit
def q3d(s:List UInt8):Bool:=decide (2<=s.length)&&decide (q0o (s.take 2)+2<=s.length)
def rdT(s:List UInt8):List UInt8:=if q3d s then(s.take (2+q0o (s.take 2))).drop 2 else []
def rdR(s:List UInt8):List UInt8:=if q3d s then s.drop (2+q0o (s.take 2)) else []
theorem q9M(s:List UInt8)(w:World)(Y:s.length<=4611686018427387903):
  Calls Tryz.prog 46 #[.string ⟨s.toArray⟩] w fun e w'=>e= .returned (.tuple #[.string ⟨(rdT s).toArray⟩,.string ⟨(rdR s).toArray⟩,.bool (q3d s)])/\Ext w w':=by
 by_cases h2:(s.length:Int)<2
 ·have x:q3d s=false:=by unfold q3d;rw[ε (by omega)];rfl
  have N:Hd (rdT s=[]):=η (by unfold rdT;rw[x];rfl);have M:Hd (rdR s=[]):=η (by unfold rdR;rw[x];rfl);have l:=η x;clear x;go_enter Tryz.func46,Tryz.ntmps46;go_wp2_with fail;go_ret3;exact⟨by rw[N.o,M.o,l.o];rfl,Ext.refl _⟩
 have q:2<=s.length:=by omega
 have E:=q1Q (s.take 2);rw[Θ,Nat.min_eq_left q] at E;have r:(s.take 2).take 8=s.take 2:=Δ (by simp;omega);have B:=η r;have l:Hd (q3d s=decide (q0o (s.take 2)+2<=s.length)):=η (by unfold q3d;rw[ζ q,Bool.true_and]);have C:Hd ((s.take 2).length<=9223372036854775807):=η (by simp;omega);have m:Hd (q3d s=true->rdT s=(s.take (2+q0o (s.take 2))).drop 2/\rdR s=s.drop (2+q0o (s.take 2))):=η (fun h=>by unfold rdT rdR;rw[h];exact⟨rfl,rfl⟩);have y:Hd (q3d s=false->rdT s=[]/\rdR s=[]):=η (fun h=>by unfold rdT rdR;rw[h];exact⟨rfl,rfl⟩);obtain⟨u,i⟩: ∃u,q0o (s.take 2)=u:=⟨_,rfl⟩
 rw[i] at E l m;have O:=η i;have X:(u:Int)<=65535:=by omega
 clear r i E h2;go_enter Tryz.func46,Tryz.ntmps46;go_wp2_with fail;refine(q7u (s.take 2) _ C.o).mono ?_;rw[B.o,O.o];rintro e w1 ⟨rfl,G⟩;have F:=η G;clear G;by_cases D:(s.length:Int)-2<(u:Int)
 ·have b:q3d s=false:=by rw[l.o];exact ε (by omega)
  have j:=η (y.o b);have d:=η b;clear b;go_wp2_with fail;go_ret3;exact⟨by rw[j.o.1,j.o.2,d.o];rfl,F.o⟩
 ·have b:q3d s=true:=by rw[l.o];exact ζ (by omega)
  have j:=η (m.o b);have d:=η b;clear b;have I:(u:Int)<=(s.length:Int)-2:=by omega
  have J:2+u<=s.length:=by omega
  clear D;have R:IntKind.i64.wrap (2+(u:Int))=2+(u:Int):=IntWalk.i64_in _ (by omega);have S:(2+(u:Int)).toNat=2+u:=by omega
  have U:0<=2+(u:Int):=by omega
  have V:2<=2+(u:Int):=by omega
  have W:2+(u:Int)<=(s.length:Int):=by omega
  go_wp2_with fail;refine q0D (by kernel_rfl) (by kernel_rfl) ?_
  repeat (go_big_quiet_step (fail))
  refine wpQuiet_nil ?_;intro Z v;have Q:=η (F.o.trans v);clear v;go_wp2_with fail;go_ret3;exact⟨by rw[j.o.1,j.o.2,d.o];rfl,Q.o⟩
theorem q3s(s:List UInt8):(rdR s).length<=s.length:=by unfold rdR;split<;>simp
theorem q6J(s:List UInt8):(rdT s).length<=s.length:=by unfold rdT;split<;>simp;omega
def q0R(t d:List UInt8):Int:=if t=[] then 2 else if 16<t.length then 3 else if 200<d.length then 3 else 0
theorem q6W(t d:List UInt8)(k:FloatKind)(b:Nat)(w:World)(q:t.length<=4611686018427387903)(m:d.length<=4611686018427387903):
  Calls Tryz.prog 31 #[.agg #[.string ⟨t.toArray⟩,.string ⟨d.toArray⟩,.float k b]] w fun e w'=>e= .returned (.int .i64 (q0R t d))/\Ext w w':=by
 have l:=η (q0B w (.cells #[.string ⟨t.toArray⟩,.string ⟨d.toArray⟩,.float k b] 66));by_cases i:t=[]
 ·subst i
  have j:Hd (q0R [] d=2):=η (by unfold q0R;rw[ξ rfl]);go_enter Tryz.func31,Tryz.ntmps31;go_wp2_with fail;go_ret;exact⟨rn j.o,l.o⟩
 have r:(t==[])=false:=beq_eq_false_iff_ne.2 i;by_cases h1:16<(t.length:Int)
 ·have j:Hd (q0R t d=3):=η (by unfold q0R;rw[κ i,ξ (by omega)])
  clear i;go_enter Tryz.func31,Tryz.ntmps31;go_wp2_with fail;go_ret;exact⟨rn j.o,l.o⟩
 by_cases h2:200<(d.length:Int)
 ·have j:Hd (q0R t d=3):=η (by unfold q0R;rw[κ i,κ (by omega),ξ (by omega)])
  clear i;go_enter Tryz.func31,Tryz.ntmps31;go_wp2_with fail;go_ret;exact⟨rn j.o,l.o⟩
 ·have j:Hd (q0R t d=0):=η (by unfold q0R;rw[κ i,κ (by omega),κ (by omega)])
  clear i;go_enter Tryz.func31,Tryz.ntmps31;go_wp2_with fail;go_ret;exact⟨rn j.o,l.o⟩
structure Ev where
 ty:List UInt8
 da:List UInt8
 we:Nat
def ev0 :Ev:=⟨[],[],0⟩
def evc(e:Ev):List Value:=[.string ⟨e.ty.toArray⟩,.string ⟨e.da.toArray⟩,.float .f64 e.we]
def evV(e:Ev):Value:= .agg #[.string ⟨e.ty.toArray⟩,.string ⟨e.da.toArray⟩,.float .f64 e.we]
def q6O(l:List Ev):List Value:=(l.map evc).flatten
theorem z3t(e:Ev):(evc e).length=3:=rfl
theorem z1M(l:List Ev):(q6O l).length=l.length*3:=by
 induction l with
 |nil=>rfl
 |cons a r ih=>rw[show q6O (a::r)=evc a++q6O r from rfl,θ,ih,z3t,χ];omega
theorem q7A(a b:List Ev):q6O (a++b)=q6O a++q6O b:=by simp[q6O]
theorem z7b(l:List Ev): ∀u∈q6O l,u.oneCell'=true:=by
 intro u b;obtain⟨c,hc,b⟩:=List.mem_flatten.1 b;obtain⟨a,_,rfl⟩:=List.mem_map.1 hc;simp[evc] at b;rcases b with rfl|rfl|rfl<;>rfl
def z4c(e:Ev):Prop:=q0R e.ty e.da=0/\e.we<18446744073709551616
def evB(e:Ev):List UInt8:=q1P e.ty++(q1P e.da++be 8 e.we)
def rdE(s:List UInt8):Option (Ev×List UInt8):=
 if q3d s=true/\q3d (rdR s)=true/\8<=(rdR (rdR s)).length/\q0R (rdT s) (rdT (rdR s))=0 then some (⟨rdT s,rdT (rdR s),q0o ((rdR (rdR s)).take 8)⟩,(rdR (rdR s)).drop 8) else none
def z1n :Nat->List UInt8->Option (List Ev×List UInt8)
 |0,s=>some ([],s)
 |n+1,s=>(z1n n s).bind fun r=>(rdE r.2).map fun x=>(r.1++[x.1],x.2)
structure Bt where
 st:List UInt8
 fi:Nat
 ev:List Ev
def q7q :List Ev->Int
 |[]=>0
 |e::r=>if q0R e.ty e.da=0 then q7q r else q0R e.ty e.da
def q0l(st:List UInt8)(fi:Int)(l:List Ev):Int:=
 if st=[]\/l=[] then 2 else if 32<st.length\/8<l.length then 3 else if fi<0\/1073741824-(l.length:Int)<fi then 2 else q7q l
def btB(b:Bt):List UInt8:=q1P b.st++(be 8 b.fi++(be 1 b.ev.length++(b.ev.map evB).flatten))
def q4o(s:List UInt8):Bool:=q3d s&&decide (9<=(rdR s).length)&&decide (q0o ((rdR s).take 8)<=1073741824)
def q4k(s:List UInt8):Option Bt:=
 if q4o s=true then match z1n ((rdR s).getD 8 0).toNat ((rdR s).drop 9) with
  |some (l,[])=>if q0l (rdT s) (q0o ((rdR s).take 8):Int) l=0 then some ⟨rdT s,q0o ((rdR s).take 8),l⟩ else none
  |_=>none
 else none
def z4H(b:Bt):Prop:=q0l b.st (b.fi:Int) b.ev=0/\ ∀e∈b.ev,e.we<18446744073709551616
theorem q2E{t d:List UInt8}(h:q0R t d=0):t≠[]/\t.length<=16/\d.length<=200:=by
 unfold q0R at h
 split at h
 ·cases h
 ·split at h
  ·cases h
  ·split at h
   ·cases h
   ·rename_i h1 h2 h3
    exact⟨h1,by omega,by omega⟩
theorem q6X : ∀{l:List Ev},q7q l=0-> ∀e∈l,q0R e.ty e.da=0
 |[],_,_,h=>by cases h
 | x ::r,h,e,he=>by
  unfold q7q at h
  split at h
  ·rename_i h1
   rcases List.mem_cons.1 he with rfl|he
   ·exact h1
   ·exact q6X h e he
  ·rename_i h1;exact absurd h h1
theorem q0x{st:List UInt8}{fi:Int}{l:List Ev}(h:q0l st fi l=0):st≠[]/\l≠[]/\st.length<=32/\l.length<=8/\0<=fi/\fi<=1073741824-(l.length:Int)/\q7q l=0:=by
 unfold q0l at h
 split at h
 ·cases h
 ·rename_i h1
  split at h
  ·cases h
  ·rename_i h2
   split at h
   ·cases h
   ·rename_i h3
    exact⟨fun e=>h1 (.inl e),fun e=>h1 (.inr e),by omega,by omega,by omega,by omega,h⟩
theorem q9S(t r:List UInt8)(h:t.length<=65535):q3d (q1P t++r)=true/\rdT (q1P t++r)=t/\rdR (q1P t++r)=r:=by
 rw[q1X h];have b:(be 2 t.length).length=2:=q0F 2 _;have i:(be 2 t.length++t++r).take 2=be 2 t.length:=by rw[List.append_assoc,List.take_left' b]
 have j:q0o ((be 2 t.length++t++r).take 2)=t.length:=by rw[i,q4U,Nat.mod_eq_of_lt (by omega)]
 have l:(be 2 t.length++t++r).length=2+t.length+r.length:=by simp[b];omega
 have d:q3d (be 2 t.length++t++r)=true:=by unfold q3d;rw[j,l];simp;omega
 refine⟨d,?_,?_⟩
 ·unfold rdT
  rw[ξ d,j,List.take_left' (by simp[b]),List.drop_left' b]
 ·unfold rdR
  rw[ξ d,j,List.drop_left' (by simp[b])]
theorem y1I(e:Ev)(r:List UInt8)(h:z4c e):rdE (evB e++r)=some (e,r):=by
 obtain⟨h1,h2⟩:=h;obtain⟨_,h3,h4⟩:=q2E h1;have b:(be 8 e.we).length=8:=q0F 8 _;have l:evB e++r=q1P e.ty++(q1P e.da++(be 8 e.we++r)):=by unfold evB;simp
 obtain⟨d,i,j⟩:=q9S e.ty (q1P e.da++(be 8 e.we++r)) (by omega);obtain⟨b1,b2,b3⟩:=q9S e.da (be 8 e.we++r) (by omega);unfold rdE;rw[l,i,j,b2,b3,ξ ⟨d,b1,by rw[θ,b];omega,h1⟩,List.take_left' b,List.drop_left' b,q4U,Nat.mod_eq_of_lt h2]
theorem z8j : ∀(l done:List Ev) (r:List UInt8),(∀e∈l,z4c e)-> ∀s,z1n done.length s=some (done,(l.map evB).flatten++r)->z1n (done.length+l.length) s=some (done++l,r)
 |[],done,r,_,s,h=>by simpa using h
 | e ::l,done,r,hl,s,h=>by
  have h1:z1n (done.length+1) s=some (done++[e],(l.map evB).flatten++r):=by
   rw[z1n,h,Option.bind_some,List.map_cons,List.flatten_cons,List.append_assoc,y1I e _ (hl e (.head _))]
   rfl
  have:=z8j l (done++[e]) r (fun x b=>hl x (.tail _ b)) s (by rw[θ];exact h1);rw[θ,List.length_singleton,List.append_assoc] at this;rw[χ,show done.length+(l.length+1)=done.length+1+l.length by omega];exact this
theorem z1Q(b:Bt)(h:z4H b):q4k (btB b)=some b:=by
 obtain⟨h1,h2⟩:=h;obtain⟨D,E,F,G,I,J,C⟩:=q0x h1;have m: ∀e∈b.ev,z4c e:=fun e he=>⟨q6X C e he,h2 e he⟩
 have d:(be 8 b.fi).length=8:=q0F 8 _;have i:(be 1 b.ev.length).length=1:=q0F 1 _;obtain⟨u,v,o⟩:=q9S b.st (be 8 b.fi++(be 1 b.ev.length++(b.ev.map evB).flatten)) (by omega);have q:(be 8 b.fi++(be 1 b.ev.length++(b.ev.map evB).flatten)).take 8=be 8 b.fi:=List.take_left' d;have s:q0o (be 8 b.fi)=b.fi:=by rw[q4U,Nat.mod_eq_of_lt (by omega)]
 have j:be 1 b.ev.length=[UInt8.ofNat b.ev.length]:=by simp[be]
 have y:(be 8 b.fi++(be 1 b.ev.length++(b.ev.map evB).flatten)).getD 8 0=UInt8.ofNat b.ev.length:=by
  rw[δ,List.getElem?_append_right (by omega),d,j];rfl
 have x:(be 8 b.fi++(be 1 b.ev.length++(b.ev.map evB).flatten)).drop 9=(b.ev.map evB).flatten:=by
  rw[<-List.append_assoc,List.drop_left' (by simp[d,i])]
 have B:(UInt8.ofNat b.ev.length).toNat=b.ev.length:=by rw[UInt8.toNat_ofNat'];omega
 have r:=z8j b.ev [] [] m (b.ev.map evB).flatten (by rw[List.append_nil];rfl);rw[List.nil_append,List.length_nil,Nat.zero_add] at r;have l:q4o (btB b)=true:=by
  unfold q4o btB;rw[u,o,q,s,θ,θ,d,i];simp;omega
 unfold q4k;rw[ξ l];unfold btB;rw[v,o,q,s,y,x,B,r];simp only;rw[ξ h1]
def y0p(h:Int):Int:=
 let a:=bits .xor .u64 h (h/4294967296)
 let b:=IntKind.u64.wrap (a*11400714819323198485)
 bits .xor .u64 b (b/536870912)
def z1S(l:List UInt8)(h:Int):Int:=l.foldl (fun h b=>IntKind.u64.wrap (bits .xor .u64 h (b.toNat:Int)*1099511628211)) h
def q2U(seed:Int)(s:List UInt8):Int:=if seed=0 then 7 else y0p (z1S s (bits .xor .u64 14695981039346656037 seed))
theorem y1u{s:List UInt8}{a b:UInt8}(d:s[0]? =some a)(h1:s[1]? =some b):q0o (s.take 2)=a.toNat*256+b.toNat:=by
 match s,d,h1 with
 | x::y::r,d,h1=>
  cases d;cases h1;simp[q0o]
theorem z4m{s:List UInt8}{k:Nat}{u:UInt8}(h:s[k]? =some u): ∀hk,(⟨s.toArray⟩:ByteArray)[k]'hk=u:=by
 obtain⟨hk,rfl⟩:=List.getElem?_eq_some_iff.1 h;intro b;rfl
theorem q7W(s:List UInt8)(w:World)(hl:s.length<=4611686018427387903):
  Calls Tryz.prog 50 #[.string ⟨s.toArray⟩] w fun e w'=>e= .returned (.tuple #[.string ⟨(rdT s).toArray⟩,.string ⟨(rdR s).toArray⟩,.bool (q3d s)])/\Ext w w':=by
 by_cases h2:(s.length:Int)<2
 ·have E:q3d s=false:=by unfold q3d;rw[ε (by omega)];rfl
  have V:Hd (rdT s=[]):=η (by unfold rdT;rw[E];rfl);have U:Hd (rdR s=[]):=η (by unfold rdR;rw[E];rfl);have j:=η E;clear E;go_enter Tryz.func50,Tryz.ntmps50;go_wp2_with fail;go_ret3;exact⟨by rw[V.o,U.o,j.o];rfl,Ext.refl _⟩
 have G:2<=s.length:=by omega
 obtain⟨a,I⟩: ∃a,s[0]? =some a:=⟨_,γ (by omega)⟩
 obtain⟨b,M⟩: ∃b,s[1]? =some b:=⟨_,γ (by omega)⟩
 have S:=y1u I M;have b0:=z4m I;have c0:=z4m M;have j:Hd (q3d s=decide (q0o (s.take 2)+2<=s.length)):=η (by unfold q3d;rw[ζ G,Bool.true_and]);have i:Hd (q3d s=true->rdT s=(s.take (2+q0o (s.take 2))).drop 2/\rdR s=s.drop (2+q0o (s.take 2))):=η (fun h=>by unfold rdT rdR;rw[h];exact⟨rfl,rfl⟩);have F:Hd (q3d s=false->rdT s=[]/\rdR s=[]):=η (fun h=>by unfold rdT rdR;rw[h];exact⟨rfl,rfl⟩);have J:a.toNat<256/\b.toNat<256:=⟨a.toNat_lt,b.toNat_lt⟩
 rw[S] at j i;obtain⟨A,X⟩: ∃A:Nat,a.toNat=A:=⟨_,rfl⟩
 obtain⟨B,Z⟩: ∃B:Nat,b.toNat=B:=⟨_,rfl⟩
 rw[X,Z] at j i J;obtain⟨u,y⟩: ∃u,A*256+B=u:=⟨_,rfl⟩
 rw[y] at j i;have m:(A:Int)*256+(B:Int)=(u:Int):=by omega
 have r:=η m;have Y:(A:Int)<=255:=by omega
 have a0:(B:Int)<=255:=by omega
 have g0:(u:Int)<=65535:=by omega
 clear S y h2 I M m;go_enter Tryz.func50,Tryz.ntmps50;go_wp2_with fail;have v:IntKind.i64.wrap ((A:Int)*256)=(A:Int)*256:=IntWalk.i64_in _ (by omega);have x:IntKind.i64.wrap ((A:Int)*256+(B:Int))=(u:Int):=by rw[r.o];exact IntWalk.i64_in _ (by omega)
 refine q0D (by kernel_rfl) (by kernel_rfl) ?_
 repeat (go_big_quiet_step (fail))
 refine wpQuiet_nil ?_;intro w4 C;have O:=η C;clear C v x;have m:=r.o;by_cases N:(s.length:Int)-2<(u:Int)
 ·have d:q3d s=false:=by rw[j.o];exact ε (by omega)
  have q:=η (F.o d);have l:=η d;clear d;go_wp2_with fail;go_ret3;exact⟨by rw[q.o.1,q.o.2,l.o];rfl,O.o⟩
 ·have d:q3d s=true:=by rw[j.o];exact ζ (by omega)
  have q:=η (i.o d);rw[Nat.add_comm 2 u] at q;have l:=η d;clear d;have Q:(u:Int)<=(s.length:Int)-2:=by omega
  have R:u+2<=s.length:=by omega
  clear N;have v:IntKind.i64.wrap ((u:Int)+2)=(u:Int)+2:=IntWalk.i64_in _ (by omega);have x:((u:Int)+2).toNat=u+2:=by omega
  have d0:0<=(u:Int)+2:=by omega
  have e0:2<=(u:Int)+2:=by omega
  have f0:(u:Int)+2<=(s.length:Int):=by omega
  go_wp2_with fail;refine q0D (by kernel_rfl) (by kernel_rfl) ?_
  repeat (go_big_quiet_step (fail))
  refine wpQuiet_nil ?_;intro w5 D;have W:=η (O.o.trans D);clear D;go_wp2_with fail;go_ret3;exact⟨by rw[q.o.1,q.o.2,l.o];rfl,W.o⟩
end
end Go.Proofs.YteabhdclmodefaaGreatDoor
