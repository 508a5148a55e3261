/- The specification's wide numbers: their value, and what times, plus, minus, order and sum come to; The specification's product of wide numbers; The sp. Conditions: each part's own, as it says. -/
import Derived.Test.YtndgolmgaenlfaaGreatDoorGC
import Derived.Test.YtndgolmgaenlfaaGreatDoorMA
import Derived.Test.YtndgolmgaenlfaaGreatDoorGA
import Derived.Test.YtndgolmgaenlfaaGreatDoorGB
import Derived.Shelf.Spec.BitsCarry
import Derived.Lib.ReplaceLaws
import Derived.Lib.Join
set_option linter.unusedVariables false
set_option linter.unusedSimpArgs false
namespace Go.Proofs.YtndgolmgaenlfaaGreatDoor
set_option maxRecDepth 4000
open Go Go.Abs Go.Val Go.Proofs.Tryz
attribute [local irreducible] go SGo an9 Ev
def wv:List Int→Int
 |[]=>0
 |d::r=>d+1000*wv r
def wok(l:List Int):Prop:=∀d∈l,0≤d∧d≤999
def cb2(l:List Int):List D:=l.map fun n=>.int n
theorem cb3{l:List Int}{i:Nat}{x:Int}(h:l[i]? =some x):(cb2 l)[i]? =some (.int x):=by
 unfold cb2;rw[fz1,h];rfl
theorem cb4(l:List Int):(cb2 l).length=l.length:=by simp[cb2]
def pw:Nat→Int
 |0=>1
 |k+1=>1000*pw k
theorem cb5:∀k,1≤pw k
 |0=>Int.le_refl _
 |k+1=>by have:=cb5 k;simp only[pw];omega
theorem cb6(m:Nat):∀k,pw (m+k)=pw m*pw k
 |0=>by simp[pw]
 |k+1=>by
  rw[←Nat.add_assoc];simp only[pw];rw[cb6 m k,Int.mul_left_comm]
theorem cb7{k m:Nat}{c:Int}(hc:1≤c)(h:c*pw k≤pw m):k≤m:=by
 rcases fy5 m k with hlt|hge
 ·exfalso;obtain⟨j,rfl⟩:∃j,k=(m+1)+j:=⟨k-(m+1),by omega⟩;have h1:=cb5 m;have h2:=cb5 j
  have h3:pw (m+1)≤pw (m+1)*pw j:=by
   have:=gj8 h2 (show 0≤pw (m+1) by have:=cb5 (m+1);omega);rwa[Int.mul_one]at this
  rw[cb6]at h
  have h4:pw (m+1)*pw j≤c*(pw (m+1)*pw j):=by
   have:=Int.mul_le_mul_of_nonneg_right hc (show 0≤pw (m+1)*pw j by have:=cb5 (m+1);omega);rwa[Int.one_mul]at this
  simp only[pw]at h3 h4 h;omega
 ·exact hge
theorem cb8:∀(l:List Int) (k:Nat) (x y:Int),l[k]? =some x→wv (l.set k y)=wv l+pw k*(y-x)
 |[],k,x,y,h=>by simp at h
 |d::r,0,x,y,h=>by simp at h;subst h;simp only[List.set_cons_zero,wv,pw];omega
 |d::r,k+1,x,y,h=>by
  have ih:=cb8 r k x y (by simpa using h);simp only[List.set_cons_succ,wv,ih,pw];rw[Int.mul_add,←Int.mul_assoc];omega
theorem cb9:∀(l:List Int),wok l→0≤wv l
 |[],_=>Int.le_refl _
 |d::r,h=>by
  have h1:=(h d Oc).1;have h2:=cb9 r fun x hx=>h x (by simp[hx])
  simp only[wv];omega
theorem cc0{l:List Int}(h:wok l)(k:Nat)(y:Int)(hy:0≤y∧y≤999):wok (l.set k y):=fun d hd=>by
 rcases gi8 hd with h1|h1
 ·exact h d h1
 ·rw[h1];exact hy
def sgn(n:Int):Int:=if n<0 then-1 else if n>0 then 1 else 0
theorem cc1(n:Int):Ev E 169 [.int n] (.d (.int (sgn n))):=by
 refine ye1 func169 ntmps169 fun _ _ _=>?_
 repeat'(first|refine yz ?_|(refine qV rfl ?_ ?_<;>intro _))
 all_goals(refine congrArg D.int ?_;simp only[decide_eq_true_eq,decide_eq_false_iff_not]at*;unfold sgn;split<;>(try split)<;>omega)
structure TO(a0 b:Int) where
 i:Nat
 a:Int
 out:List Int
 ha:0≤a
 hb:a*pw i≤1000000000000000
 ok:wok out
 hl:out.length=14
 hv:wv out+pw i*(a*b)=a0*b
structure TI(a0 b d a':Int)(i:Nat) where
 k:Nat
 c:Int
 carry:Int
 out:List Int
 hk:k≤11
 hc:0≤c
 hcb:∃j,k=i+j∧c*pw j≤1000000000000000
 hca:0≤carry∧carry≤999
 ok:wok out
 hl:out.length=14
 hv:wv out+pw k*(d*c+carry)+pw (i+1)*(a'*b)=a0*b
theorem cc2{out:List Int}(hl:out.length=14){k:Nat}(hk:k<14):∃x,out[k]? =some x:=⟨out[k],fy4 Oa⟩
theorem cc3(l:List Int)(k:Nat)(y:Int):(cb2 l).set k (.int y)=cb2 (l.set k y):=by simp[cb2,List.map_set]
theorem cc4{out:List Int}{k i:Nat}{x d c carry a' b T:Int}(hx:out[k]? =some x)(h0:0≤carry+x+d*(c % 1000))(hc:0≤c)
  (hv:wv out+pw k*(d*c+carry)+pw (i+1)*(a'*b)=T):
  wv (out.set k ((carry+x+d*(c % 1000)) % 1000))+pw (k+1)*(d*(c/1000)+(carry+x+d*(c % 1000)) /1000)+pw (i+1)*(a'*b)=T:=by
 rw[cb8 out k x _ hx,←hv];have e1:c=c % 1000+1000*(c/1000):=Oa
 have e2:carry+x+d*(c % 1000)=(carry+x+d*(c % 1000)) % 1000+1000*((carry+x+d*(c % 1000)) /1000):=Oa
 generalize hq:(carry+x+d*(c % 1000)) /1000=q at*;generalize hr:(carry+x+d*(c % 1000)) % 1000=r at*
 have e3:d*c=d*(c % 1000)+1000*(d*(c/1000)):=by
  rw[←Int.mul_left_comm,←Int.mul_add,←e1]
 have e4:pw (k+1)*(d*(c/1000)+q)=pw k*(1000*(d*(c/1000))+1000*q):=by
  simp only[pw];rw[Int.mul_comm 1000 (pw k),Int.mul_assoc,Int.mul_add 1000]
 have e5:pw k*(r-x)+pw k*(1000*(d*(c/1000))+1000*q)=pw k*(d*c+carry):=by
  rw[←Int.mul_add];congr 1;omega
 rw[e4];omega
theorem pw5:pw 5=1000000000000000:=Od
def cc5:Nat→Int→List Int
 |0,_=>[]
 |k+1,n=>n % 1000::cc5 k (n/1000)
theorem cc6:∀(l:List Int),wok l→cc5 l.length (wv l)=l
 |[],_=>rfl
 |d::r,h=>by
  have hd:=h d Oc;simp only[fy7,cc5,wv];rw[show(d+1000*wv r) % 1000=d from by omega,show(d+1000*wv r) /1000=wv r from by omega,cc6 r fun x hx=>h x (by simp[hx])]
theorem cc7{l:List Int}{n:Int}(h:wok l)(hl:l.length=14)(hv:wv l=n):l=cc5 14 n:=by
 rw[←hv,←hl,cc6 l h]
theorem cc8:∀(k:Nat) (n:Int),(cc5 k n).length=k
 |0,_=>rfl
 |k+1,n=>by simp[cc5,cc8 k]
theorem cc9:∀(k:Nat) (n:Int),wok (cc5 k n)
 |0,_=>by intro d hd;simp[cc5]at hd
 |k+1,n=>by
  intro d hd;simp only[cc5,fz0]at hd;rcases hd with h|h
  ·subst h;omega
  ·exact cc9 k _ d h
theorem cd0:∀(k:Nat) (n:Int),0≤n→n<pw k→wv (cc5 k n)=n
 |0,n,h0,h1=>by simp only[pw]at h1;simp only[cc5,wv];omega
 |k+1,n,h0,h1=>by
  simp only[pw]at h1;simp only[cc5,wv];rw[cd0 k (n/1000) Oa Oa];omega
theorem cd1{a0 b d c carry a':Int}{k i:Nat}{out:List Int}(ha0:0≤a0)(ha1:a0≤1000000000000000)(hb0:0≤b)(hb1:b≤1000000000000000)(ok:wok out)(hd:0≤d)(hc:0≤c)(hca:carry>0)(ha':0≤a')
  (hv:wv out+pw k*(d*c+carry)+pw (i+1)*(a'*b)=a0*b):k≤10:=by
 have h1:=cb9 out ok;have h2:0≤pw (i+1)*(a'*b):=Int.mul_nonneg (by have:=cb5 (i+1);omega) (Int.mul_nonneg ha' hb0);have h3:a0*b≤1000000000000000*1000000000000000:=Int.mul_le_mul ha1 hb1 hb0 Oa;have h4:1≤d*c+carry:=by have:=Int.mul_nonneg hd hc;omega
 refine cb7 h4 ?_;rw[Int.mul_comm,show pw 10=1000000000000000*1000000000000000 from by decide];omega
theorem cd2(l:List Int)(k:Nat)(x y:Int):(cb2 l).set ((k:Int)).toNat (ar8 (.int x) 0 (.int y))=cb2 (l.set k y):=by
 rw[gb1];exact cc3 l k y
theorem cd3{a0 b d a':Int}{i k j:Nat}{c carry x:Int}{out:List Int}(hk:k≤10)(hj:k=i+j)(hcb:c*pw j≤1000000000000000)(hc:0≤c)(hca:0≤carry∧carry≤999)(ok:wok out)(hl:out.length=14)(hx:out[k]? =some x)(hxr:0≤x∧x≤999)
  (hp:0≤d*c.tmod 1000∧d*c.tmod 1000≤998001)(hv:wv out+pw k*(d*c+carry)+pw (i+1)*(a'*b)=a0*b):
  ∃y:TI a0 b d a' i,y.k=k+1∧y.c=c.tdiv 1000∧y.carry=(carry+x+d*c.tmod 1000).tdiv 1000∧y.out=out.set k ((carry+x+d*c.tmod 1000).tmod 1000):=by
 have s1:c.tmod 1000=c % 1000:=gg2 hc;have s2:c.tdiv 1000=c/1000:=gi3 hc;have t0:0≤carry+x+d*c.tmod 1000:=Oa
 have s3:(carry+x+d*c.tmod 1000).tmod 1000=(carry+x+d*c.tmod 1000) % 1000:=gg2 t0;have s4:(carry+x+d*c.tmod 1000).tdiv 1000=(carry+x+d*c.tmod 1000) /1000:=gi3 t0;refine⟨⟨k+1,c.tdiv 1000,(carry+x+d*c.tmod 1000).tdiv 1000,out.set k ((carry+x+d*c.tmod 1000).tmod 1000),by omega,by rw[s2];omega,⟨j+1,by omega,?_⟩,by rw[s4];omega,cc0 ok k _ (by rw[s3];omega),by simpa using hl,?_⟩,rfl,rfl,rfl,rfl⟩
 ·rw[s2];simp only[pw];have h1:c/1000*1000≤c:=by omega
  have:=Int.mul_le_mul_of_nonneg_right h1 (show 0≤pw j by have:=cb5 j;omega);rw[Int.mul_assoc]at this;omega
 ·rw[s3,s4,s1,s2];rw[s1]at t0;exact cc4 hx t0 hc hv
theorem cd4(a0 b:Int)(ha0:0≤a0)(ha1:a0≤1000000000000000)(hb0:0≤b)(hb1:b≤1000000000000000):Ev E 170 [.int a0,.int b] (.d (.sl (cb2 (cc5 14 (a0*b))))):=by
 refine ye2 func170 ntmps170 fun _ _ _=>?_
 repeat'(refine yz ?_)
 refine ac8 (α:=TO a0 b) (fun p=>⟨[(0,.d (.int p.a)),(1,.d (.int b)),(5,.own 0),(6,.d (.int p.i))],[.row 3 1 (cb2 p.out)]⟩) (fun p=>p.a.toNat) ⟨0,a0,List.replicate 14 0,ha0,by simp only[pw];omega,fun d hd=>by rw[(gh8.1 hd).2];omega,by simp,by simp[pw,wv,List.replicate]⟩ (zle 1) ?_;rintro⟨i,a,out,ha,hb,ok,hl,hv⟩;dsimp only
 by_cases hpos:a>0
 ·have hd:decide (a>0)=true:=by simpa using hpos
  have hi5:i≤5:=cb7 (show 1≤a by omega) (by rw[pw5];exact hb);have q1:a.tmod 1000=a % 1000:=gg2 ha;have q2:a.tdiv 1000=a/1000:=gi3 ha
  have ha2:a≤1000000000000000:=by
   have:=gj8 (cb5 i) ha;rw[Int.mul_one]at this;omega
  have r1:inR .i64 (a.tmod 1000):=by rw[q1];simp only[inR];omega
  have hinit:wv out+pw i*(a.tmod 1000*b+0)+pw (i+1)*(a.tdiv 1000*b)=a0*b:=by
   rw[←hv,q1,q2,Int.add_zero]
   have e:a*b=a % 1000*b+1000*(a/1000*b):=by
    rw[←Int.mul_assoc,←Int.add_mul,show a % 1000+1000*(a/1000)=a from by omega]
   rw[e,Int.mul_add];simp only[pw];rw[Int.mul_comm 1000 (pw i),Int.mul_assoc];omega
  repeat'(refine yz ?_)
  refine ac8 (α:=TI a0 b (a.tmod 1000) (a.tdiv 1000) i) (fun p=>⟨[(0,.d (.int (a.tdiv 1000))),(1,.d (.int b)),(5,.own 0),(6,.d (.int i)),(7,.d (.int (a.tmod 1000))),(8,.d (.int p.c)),(9,.d (.int p.carry)),(10,.d (.int p.k))],[.row 3 1 (cb2 p.out)]⟩) (fun p=>20-p.k) ⟨i,b,0,out,by omega,hb0,⟨0,rfl,by simp only[pw];omega⟩,by omega,ok,hl,hinit⟩ (zle 1) ?_;rintro⟨k,c,carry,o2,hk,hc,⟨j,hj,hcb⟩,hca,ok2,hl2,hv2⟩;dsimp only;have hd0:0≤a.tmod 1000∧a.tmod 1000≤999:=by rw[q1];omega
  by_cases hcont:c>0∨carry>0
  ·have hk10:k≤10:=by
    rcases hcont with h|h
    ·have:j≤5:=cb7 (show 1≤c by omega) (by rw[pw5];exact hcb);omega
    ·exact cd1 ha0 ha1 hb0 hb1 ok2 hd0.1 hc h (by rw[q2];omega) hv2
   obtain⟨x,hx⟩:=cc2 hl2 (show k<14 by omega);have hx':(cb2 o2)[((k:Int)).toNat]? =some (.int x):=cb3 (by rw[gb1];exact hx);have hxr:=ok2 x (fy6 hx);have hle:(cb2 o2).length=14:=by rw[cb4];exact hl2
   have s1:c.tmod 1000=c % 1000:=gg2 hc;have s2:c.tdiv 1000=c/1000:=gi3 hc
   have hp:0≤a.tmod 1000*c.tmod 1000∧a.tmod 1000*c.tmod 1000≤998001:=by
    have h1:0≤c.tmod 1000∧c.tmod 1000≤999:=by rw[s1];omega
    refine⟨Int.mul_nonneg hd0.1 h1.1,?_⟩;have:=Int.mul_le_mul hd0.2 h1.2 h1.1 Oa;omega
   have hc15:c≤1000000000000000:=by
    have:=gj8 (cb5 j) hc;rw[Int.mul_one]at this;omega
   obtain⟨y,e1,e2,e3,e4⟩:=cd3 hk10 hj hcb hc hca ok2 hl2 hx hxr hp hv2
   by_cases hc0:c>0
   ·have g1:decide (c>0)=true:=by simpa using hc0
    repeat'(first|refine yz ?_|refine qW (.int x) rfl rfl rfl rfl rfl rfl hx' rfl ?_|refine qZ (.int x) rfl rfl rfl rfl rfl rfl hx' rfl rfl rfl ?_|refine yx ?_)
    refine ac2 ?_;refine⟨y,by omega,?_⟩;rw[e1,e2,e3,e4,←cd2 o2 k x];exact(zle 1)
   ·have g1:decide (c>0)=false:=by simpa using hc0
    have g2:decide (carry>0)=true:=Og
    repeat'(first|refine yz ?_|refine qW (.int x) rfl rfl rfl rfl rfl rfl hx' rfl ?_|refine qZ (.int x) rfl rfl rfl rfl rfl rfl hx' rfl rfl rfl ?_|refine yx ?_)
    refine ac2 ?_;refine⟨y,by omega,?_⟩;rw[e1,e2,e3,e4,←cd2 o2 k x];exact(zle 1)
  ·have g1:decide (c>0)=false:=by simp;omega
   have g2:decide (carry>0)=false:=Og
   have hc0:c=0:=Oa
   have hca0:carry=0:=Oa
   subst hc0 hca0
   repeat'(refine yz ?_)
   refine ac2 ?_;refine⟨⟨i+1,a.tdiv 1000,o2,by rw[q2];omega,?_,ok2,hl2,?_⟩,by dsimp only;omega,(zle 1)⟩
   ·rw[q2];simp only[pw];have h1:a/1000*1000≤a:=by omega
    have:=Int.mul_le_mul_of_nonneg_right h1 (show 0≤pw i by have:=cb5 i;omega);rw[Int.mul_assoc]at this;omega
   ·rw[←hv2,Int.mul_zero,Int.add_zero,Int.mul_zero,Int.add_zero]
 ·have hd:decide (a>0)=false:=by simpa using hpos
  have ha':a=0:=Oa
  subst ha';rw[Int.zero_mul,Int.mul_zero,Int.add_zero]at hv;rw[←cc7 ok hl hv]
  repeat'(refine yz ?_)
  refine av3 0 rfl ?_
  repeat'(first|refine qL rfl rfl ?_|exact zD)
structure SPM(x y:List Int)(s:Int) where
 k:Nat
 carry:Int
 out:List Int
 hk:k≤14
 hca:carry=0∨carry=s
 ok:wok out
 hl:out.length=14
 hz:∀j,k≤j→j<14→out[j]? =some 0
 hv:wv out+pw k*(carry+wv (x.drop k)+s*wv (y.drop k))=wv x+s*wv y
theorem cd5{x y:List Int}{s:Int}(p:SPM x y s)(hk:p.k<14){a b r q:Int}(ha:x[p.k]? =some a)(hb:y[p.k]? =some b)(he:p.carry+a+s*b=r+1000*q)(hr:0≤r∧r≤999)(hq:q=0∨q=s):
  ∃p':SPM x y s,p'.k=p.k+1∧p'.carry=q∧p'.out=p.out.set p.k r:=by
 refine⟨⟨p.k+1,q,p.out.set p.k r,by omega,hq,cc0 p.ok _ _ hr,by simpa using p.hl,fun j h1 h2=>?_,?_⟩,rfl,rfl,rfl⟩
 ·rw[gj0 Oa];exact p.hz j Oa h2
 ·rw[cb8 p.out p.k 0 r (p.hz p.k (fz6 _) hk),←p.hv,bv7 ha,bv7 hb];simp only[wv,pw];have e1:s*(b+1000*wv (List.drop (p.k+1) y))=s*b+1000*(s*wv (List.drop (p.k+1) y)):=by rw[Int.mul_add,Int.mul_left_comm]
  have e2:p.carry+(a+1000*wv (List.drop (p.k+1) x))+s*(b+1000*wv (List.drop (p.k+1) y))=r+1000*(q+wv (List.drop (p.k+1) x)+s*wv (List.drop (p.k+1) y)):=by
   rw[e1];omega
  rw[e2,Int.mul_add (pw p.k) r,←Int.mul_assoc (pw p.k) 1000,Int.mul_comm (pw p.k) 1000,Int.sub_zero,Int.add_assoc]
theorem cd6:∀(l:List Int),wok l→wv l<pw l.length
 |[],_=>by decide
 |d::r,h=>by
  have h1:=h d Oc;have h2:=cd6 r fun x hx=>h x (by simp[hx])
  simp only[wv,fy7,pw];omega
theorem cd7{x y:List Int}{s:Int}(p:SPM x y s)(hx:x.length=14)(hy:y.length=14)(hk:p.k=14)(hs:s=1∨s= -1)(h0:0≤wv x+s*wv y)(h1:wv x+s*wv y<pw 14):p.out=cc5 14 (wv x+s*wv y):=by
 have hb:=cd6 p.out p.ok;rw[p.hl]at hb;have hv:=p.hv;rw[hk,ga2 Oa,ga2 Oa]at hv;simp only[wv,Int.mul_zero,Int.add_zero]at hv;have hp:pw 14=1000000000000000000000000000000000000000000:=Od
 rw[hp]at h1 hb hv;have hn:=cb9 p.out p.ok;refine cc7 p.ok p.hl ?_;rcases p.hca with h|h<;>rcases hs with h'|h'<;>rw[h]at hv<;>(try rw[h']at hv h0 h1 ⊢)<;>omega
def spm0(x y:List Int)(s:Int):SPM x y s:=⟨0,0,List.replicate 14 0,by omega,.inl rfl,fun d hd=>by rw[(gh8.1 hd).2];omega,by simp,fun j _ h=>by rw[List.getElem?_replicate,if_pos h],by
 have:wv (List.replicate 14 0)=0:=Od
 rw[this];simp[pw]⟩
theorem cd8{x:List Int}(hx:wok x)(hl:x.length=14){k:Nat}(hk:k<14):∃a,x[k]? =some a∧(cb2 x)[((k:Int)).toNat]? =some (.int a)∧0≤a∧a≤999:=by
 obtain⟨a,ha⟩:=cc2 hl hk;exact⟨a,ha,cb3 (by rw[gb1];exact ha),hx a (fy6 ha)⟩
theorem cd9(x y:List Int)(hx:wok x)(hy:wok y)(lx:x.length=14)(ly:y.length=14)(h1:wv x+wv y<pw 14):Ev E 248 [.sl (cb2 x),.sl (cb2 y)] (.d (.sl (cb2 (cc5 14 (wv x+wv y))))):=by
 have zx:=cb9 x hx;have zy:=cb9 y hy;have hlx:(cb2 x).length=14:=by rw[cb4];exact lx
 have hlxz:((cb2 x).length:Int)=14:=by rw[hlx];rfl
 refine ye2 func248 ntmps248 fun _ _ _=>?_
 repeat'(first|refine yz ?_|(refine qS rfl ⟨rfl,by(show 8*(cb2 x).length≤281474976710656;omega),by omega⟩ ?_))
 refine ac8 (α:=SPM x y 1) (fun p=>⟨[(0,.d (.sl (cb2 x))),(1,.d (.sl (cb2 y))),(5,.own 0),(6,.d (.int p.carry)),(7,.d (.int p.k))],[.row 3 1 (cb2 p.out)]⟩) (fun p=>14-p.k) (spm0 x y 1) (by rw[hlx];exact(zle 1)) ?_;intro p;have hkk:=p.hk;rcases fy5 p.k 14 with hlt|hge
 ·have hd:decide ((p.k:Int)<((cb2 x).length:Int))=true:=by rw[hlx];simp;omega
  obtain⟨a,a1,a2,a3⟩:=cd8 hx lx hlt;obtain⟨b,b1,b2,b3⟩:=cd8 hy ly hlt;have c2:(cb2 p.out)[((p.k:Int)).toNat]? =some (.int 0):=cb3 (by rw[gb1];exact p.hz p.k (fz6 _) hlt);have hle:(cb2 p.out).length=14:=by rw[cb4];exact p.hl
  have hca:=p.hca;have t0:0≤p.carry+a+b:=Oa
  obtain⟨p',e1,e2,e3⟩:=cd5 p hlt a1 b1 (r:=(p.carry+a+b).tmod 1000) (q:=(p.carry+a+b).tdiv 1000) (by rw[gg2 t0,gi3 t0];omega) (by rw[gg2 t0];omega) (by rw[gi3 t0];omega)
  repeat'(first|refine yz ?_|refine yi (.int a) a2 ?_|refine yi (.int b) b2 ?_|refine qZ (.int 0) rfl rfl rfl rfl rfl rfl c2 rfl rfl rfl ?_)
  refine ac2 ?_;refine⟨p',by omega,?_⟩;rw[e1,e2,e3,←cd2 p.out p.k 0];exact(zle 1)
 ·have hd:decide ((p.k:Int)<((cb2 x).length:Int))=false:=by rw[hlx];simp;omega
  have hend:=cd7 p lx ly Oa (.inl rfl) Oa Oa;rw[Int.one_mul]at hend;rw[←hend]
  repeat'(refine yz ?_)
  refine av3 0 rfl ?_
  repeat'(first|refine qL rfl rfl ?_|exact zD)
theorem ce0(x y:List Int)(hx:wok x)(hy:wok y)(lx:x.length=14)(ly:y.length=14)(h1:wv y≤wv x):Ev E 250 [.sl (cb2 x),.sl (cb2 y)] (.d (.sl (cb2 (cc5 14 (wv x-wv y))))):=by
 have zx:=cd6 x hx;rw[lx]at zx;have zy:=cb9 y hy;have hlx:(cb2 x).length=14:=by rw[cb4];exact lx
 refine ye2 func250 ntmps250 fun _ _ _=>?_
 repeat'(first|refine yz ?_|(refine qS rfl ⟨rfl,by(show 8*(cb2 x).length≤281474976710656;omega),by omega⟩ ?_))
 refine ac8 (α:=SPM x y (-1)) (fun p=>⟨[(0,.d (.sl (cb2 x))),(1,.d (.sl (cb2 y))),(5,.own 0),(6,.d (.int p.carry)),(7,.d (.int p.k))],[.row 3 1 (cb2 p.out)]⟩) (fun p=>14-p.k) (spm0 x y (-1)) (by rw[hlx];exact(zle 1)) ?_;intro p;have hkk:=p.hk;rcases fy5 p.k 14 with hlt|hge
 ·have hd:decide ((p.k:Int)<((cb2 x).length:Int))=true:=by rw[hlx];simp;omega
  obtain⟨a,a1,a2,a3⟩:=cd8 hx lx hlt;obtain⟨b,b1,b2,b3⟩:=cd8 hy ly hlt;have c2:(cb2 p.out)[((p.k:Int)).toNat]? =some (.int 0):=cb3 (by rw[gb1];exact p.hz p.k (fz6 _) hlt);have hle:(cb2 p.out).length=14:=by rw[cb4];exact p.hl
  have hca:=p.hca
  by_cases hneg:p.carry+a-b<0
  ·have g1:decide (p.carry+a-b<0)=true:=by simpa using hneg
   obtain⟨p',e1,e2,e3⟩:=cd5 p hlt a1 b1 (r:=p.carry+a-b+1000) (q:= -1) Oa Oa Oa
   repeat'(first|refine yz ?_|refine yi (.int a) a2 ?_|refine yi (.int b) b2 ?_|refine qZ (.int 0) rfl rfl rfl rfl rfl rfl c2 rfl rfl rfl ?_)
   refine ac2 ?_;refine⟨p',by omega,?_⟩;rw[e1,e2,e3,←cd2 p.out p.k 0];exact(zle 1)
  ·have g1:decide (p.carry+a-b<0)=false:=by simpa using hneg
   obtain⟨p',e1,e2,e3⟩:=cd5 p hlt a1 b1 (r:=p.carry+a-b) (q:=0) Oa Oa Oa
   repeat'(first|refine yz ?_|refine yi (.int a) a2 ?_|refine yi (.int b) b2 ?_|refine qZ (.int 0) rfl rfl rfl rfl rfl rfl c2 rfl rfl rfl ?_)
   refine ac2 ?_;refine⟨p',by omega,?_⟩;rw[e1,e2,e3,←cd2 p.out p.k 0];exact(zle 1)
 ·have hd:decide ((p.k:Int)<((cb2 x).length:Int))=false:=by rw[hlx];simp;omega
  have hend:=cd7 p lx ly Oa (.inr rfl) Oa Oa;rw[show wv x+ -1*wv y=wv x-wv y from by omega]at hend;rw[←hend]
  repeat'(refine yz ?_)
  refine av3 0 rfl ?_
  repeat'(first|refine qL rfl rfl ?_|exact zD)
theorem ce1:∀(l:List Int) (k:Nat),k≤l.length→wv l=wv (l.take k)+pw k*wv (l.drop k)
 |l,0,_=>by simp[wv,pw]
 |[],k+1,h=>by simp at h
 |d::r,k+1,h=>by
  simp only[List.take_succ_cons,List.drop_succ_cons,wv,pw];rw[ce1 r k (by simpa using h),Int.mul_add,Int.mul_assoc];omega
theorem ce2{x y:List Int}(hx:wok x)(lx:x.length=14)(ly:y.length=14)(hy:wok y){k:Nat}(hk:k<14){a b:Int}(ha:x[k]? =some a)(hb:y[k]? =some b)(he:x.drop (k+1)=y.drop (k+1))(hab:a<b):wv x<wv y:=by
 rw[ce1 x k Oa,ce1 y k Oa,bv7 ha,bv7 hb,he];simp only[wv];have h1:=cd6 (x.take k) fun d hd=>hx d (gg6 hd)
 have h2:=cb9 (y.take k) fun d hd=>hy d (gg6 hd)
 rw[gb6,lx,Nat.min_eq_left Oa]at h1
 have h3:pw k*(a+1000*wv (List.drop (k+1) y))+pw k≤pw k*(b+1000*wv (List.drop (k+1) y)):=by
  have:=gj8 (show a+1000*wv (List.drop (k+1) y)+1≤b+1000*wv (List.drop (k+1) y) by omega) (show 0≤pw k by have:=cb5 k;omega);rw[Int.mul_add _ _ 1,Int.mul_one]at this;exact this
 omega
structure SO(x y:List Int) where
 n:Nat
 hn:n≤14
 he:x.drop n=y.drop n
theorem ce3(x y:List Int)(hx:wok x)(hy:wok y)(lx:x.length=14)(ly:y.length=14):Ev E 249 [.sl (cb2 x),.sl (cb2 y)] (.d (.int (sgn (wv x-wv y)))):=by
 have hlx:(cb2 x).length=14:=by rw[cb4];exact lx
 refine ye2 func249 ntmps249 fun _ _ _=>?_
 repeat'(refine yz ?_)
 refine ac8 (α:=SO x y) (fun p=>⟨[(0,.d (.sl (cb2 x))),(1,.d (.sl (cb2 y))),(5,.d (.int ((p.n:Int) -1)))],[]⟩) (fun p=>p.n) ⟨14,by omega,by rw[ga2 Oa,ga2 Oa]⟩ (by rw[hlx];exact(zle 0)) ?_;rintro⟨n,hn,he⟩;dsimp only
 match n,hn,he with
 |0,_,he=>
  have g1:decide (((0:Nat):Int) -1≥0)=false:=Od
  have:x=y:=by simpa using he
  repeat'(refine yz ?_)
  rw[this,Int.sub_self];rfl
 |k+1,hn,he=>
  have hk:(((k+1:Nat):Int) -1)=(k:Int):=Oa
  rw[hk];have g1:decide ((k:Int)≥0)=true:=Oc
  obtain⟨a,a1,a2,a3⟩:=cd8 hx lx (show k<14 by omega);obtain⟨b,b1,b2,b3⟩:=cd8 hy ly (show k<14 by omega)
  by_cases h1:a<b
  ·have g2:decide (a<b)=true:=by simpa using h1
   have:=ce2 hx lx ly hy Oa a1 b1 he h1
   repeat'(first|refine yz ?_|refine yi (.int a) a2 ?_|refine yi (.int b) b2 ?_)
   unfold sgn;rw[if_pos Oa]
  ·have g2:decide (a<b)=false:=by simpa using h1
   by_cases h2:a>b
   ·have g3:decide (a>b)=true:=by simpa using h2
    have:=ce2 hy ly lx hx Oa b1 a1 he.symm h2
    repeat'(first|refine yz ?_|refine yi (.int a) a2 ?_|refine yi (.int b) b2 ?_)
    unfold sgn;rw[if_neg Oa,if_pos Oa]
   ·have g3:decide (a>b)=false:=by simpa using h2
    repeat'(first|refine yz ?_|refine yi (.int a) a2 ?_|refine yi (.int b) b2 ?_)
    refine ac2 ?_;refine⟨⟨k,by omega,?_⟩,by dsimp only;omega,(zle 0)⟩;rw[bv7 a1,bv7 b1,he,show a=b from by omega]
theorem ce4{n:Int}(h:n>0):sgn n=1:=by unfold sgn;rw[if_neg Oa,if_pos h]
theorem ce5{n:Int}(h:n<0):sgn n= -1:=by unfold sgn;rw[if_pos h]
theorem ce6:sgn 0=0:=rfl
theorem ce7(A B:Int)(hA:(A.natAbs:Int)≤1000000000000000000000000000000)(hB:(B.natAbs:Int)≤1000000000000000000000000000000):
  Ev E 168 [.int (sgn A),.sl (cb2 (cc5 14 A.natAbs)),.int (sgn B),.sl (cb2 (cc5 14 B.natAbs))] (.tup [.int (sgn (A+B)),.sl (cb2 (cc5 14 (A+B).natAbs))]):=by
 have hpw:pw 14=1000000000000000000000000000000000000000000:=Od
 have va:wv (cc5 14 A.natAbs)=A.natAbs:=cd0 14 _ Oa Oa;have vb:wv (cc5 14 B.natAbs)=B.natAbs:=cd0 14 _ Oa Oa;have hp:=cd9 (cc5 14 A.natAbs) (cc5 14 B.natAbs) (cc9 _ _) (cc9 _ _) (cc8 _ _) (cc8 _ _) (by rw[va,vb];omega);have ho:=ce3 (cc5 14 A.natAbs) (cc5 14 B.natAbs) (cc9 _ _) (cc9 _ _) (cc8 _ _) (cc8 _ _);have hm1:(B.natAbs:Int)≤A.natAbs→_:=fun h=>ce0 (cc5 14 A.natAbs) (cc5 14 B.natAbs) (cc9 _ _) (cc9 _ _) (cc8 _ _) (cc8 _ _) (by rw[va,vb];exact h)
 have hm2:(A.natAbs:Int)≤B.natAbs→_:=fun h=>ce0 (cc5 14 B.natAbs) (cc5 14 A.natAbs) (cc9 _ _) (cc9 _ _) (cc8 _ _) (cc8 _ _) (by rw[va,vb];exact h)
 have hp0:Ev E 248 [.sl (List.replicate 14 (.int 0)),.sl (List.replicate 14 (.int 0))] (.d (.sl (cb2 (cc5 14 0)))):=cd9 (List.replicate 14 0) (List.replicate 14 0) (fun d hd=>by rw[(gh8.1 hd).2];omega) (fun d hd=>by rw[(gh8.1 hd).2];omega) rfl rfl Od;rw[va,vb]at hp ho;simp only[va,vb]at hm1 hm2
 have same:∀s:Int,sgn A=s→(sgn B=s∨sgn B=0)→sgn (A+B)=s→((A+B).natAbs:Int)=A.natAbs+B.natAbs→Ev E 168 [.int (sgn A),.sl (cb2 (cc5 14 A.natAbs)),.int (sgn B),.sl (cb2 (cc5 14 B.natAbs))] (.tup [.int (sgn (A+B)),.sl (cb2 (cc5 14 (A+B).natAbs))]):=by
  intro s h1 h2 h3 h4;rw[h3,h4,h1]
  cases h5:s==sgn B with
  |true=>
   refine aq6 func168 ntmps168 rfl rfl fun w0 F0 O=>?_
   repeat'(first|refine yz ?_|refine yp b248 hp ?_|refine yx ?_|exact zL)
  |false=>
   have h6:(sgn B==0)=true:=by
    rcases h2 with h|h
    ·rw[h]at h5;simp at h5
    ·rw[h];rfl
   refine aq6 func168 ntmps168 rfl rfl fun w0 F0 O=>?_
   repeat'(first|refine yz ?_|refine yp b248 hp ?_|refine yx ?_|exact zL)
 rcases(show A>0∨A=0∨A<0 by omega)with h1|h1|h1<;>rcases(show B>0∨B=0∨B<0 by omega)with h2|h2|h2
 ·exact same 1 (ce4 h1) (.inl (ce4 h2)) (ce4 Oa) Oa
 ·exact same 1 (ce4 h1) (.inr (by rw[h2];rfl)) (ce4 Oa) Oa
 rotate_left
 ·subst h1;have e:((0+B).natAbs:Int)=B.natAbs:=by omega
  rw[e,Int.zero_add,ce4 h2];refine aq6 func168 ntmps168 rfl rfl fun w0 F0 O=>?_
  exact Om
 ·exact same 0 (by rw[h1];rfl) (.inl (by rw[h2];rfl)) (by rw[h1,h2];rfl) Oa
 ·subst h1;have e:((0+B).natAbs:Int)=B.natAbs:=by omega
  rw[e,Int.zero_add,ce5 h2];refine aq6 func168 ntmps168 rfl rfl fun w0 F0 O=>?_
  exact Om
 rotate_left
 ·exact same (-1) (ce5 h1) (.inr (by rw[h2];rfl)) (ce5 Oa) Oa
 ·exact same (-1) (ce5 h1) (.inl (ce5 h2)) (ce5 Oa) Oa
 all_goals
  first|rw[ce4 h1]|rw[ce5 h1]
  first|rw[ce4 h2]|rw[ce5 h2]
  rcases(show(A.natAbs:Int) -B.natAbs>0∨(A.natAbs:Int) -B.natAbs=0∨(A.natAbs:Int) -B.natAbs<0 by omega)with h3|h3|h3
 ·rw[ce4 h3]at ho;have e:((A+B).natAbs:Int)=A.natAbs-B.natAbs:=by omega
  rw[e,ce4 (show A+B>0 by omega)];refine aq6 func168 ntmps168 rfl rfl fun w0 F0 O=>?_
  repeat'(first|refine yz ?_|refine yp bt0 ho ?_|refine yp b250 (hm1 Oa) ?_|exact zL)
 ·rw[h3,ce6]at ho;have e:A+B=0:=by omega
  rw[e,ce6];refine aq6 func168 ntmps168 rfl rfl fun w0 F0 O=>?_
  repeat'(first|refine yz ?_|refine yp bt0 ho ?_|refine aw0 14 rfl rfl rfl rfl rfl rfl rfl rfl rfl rfl Od Od ?_|refine yp b248 hp0 ?_|exact zL)
 ·rw[ce5 h3]at ho;have e:((A+B).natAbs:Int)=B.natAbs-A.natAbs:=by omega
  rw[e,ce5 (show A+B<0 by omega)];refine aq6 func168 ntmps168 rfl rfl fun w0 F0 O=>?_
  repeat'(first|refine yz ?_|refine yp bt0 ho ?_|refine yp b250 (hm2 Oa) ?_|exact zL)
 ·rw[ce4 h3]at ho;have e:((A+B).natAbs:Int)=A.natAbs-B.natAbs:=by omega
  rw[e,ce5 (show A+B<0 by omega)];refine aq6 func168 ntmps168 rfl rfl fun w0 F0 O=>?_
  repeat'(first|refine yz ?_|refine yp bt0 ho ?_|refine yp b250 (hm1 Oa) ?_|exact zL)
 ·rw[h3,ce6]at ho;have e:A+B=0:=by omega
  rw[e,ce6];refine aq6 func168 ntmps168 rfl rfl fun w0 F0 O=>?_
  repeat'(first|refine yz ?_|refine yp bt0 ho ?_|refine aw0 14 rfl rfl rfl rfl rfl rfl rfl rfl rfl rfl Od Od ?_|refine yp b248 hp0 ?_|exact zL)
 ·rw[ce5 h3]at ho;have e:((A+B).natAbs:Int)=B.natAbs-A.natAbs:=by omega
  rw[e,ce4 (show A+B>0 by omega)];refine aq6 func168 ntmps168 rfl rfl fun w0 F0 O=>?_
  repeat'(first|refine yz ?_|refine yp bt0 ho ?_|refine yp b250 (hm2 Oa) ?_|exact zL)
def fzn(n d:Int):Int:=bif bq2 n d then n else 0
def fzd(n d:Int):Int:=bif bq2 n d then d else 1
def ce8(an ad bn bd:Int):Int:=sgn (fzn an ad*fzd bn bd-fzn bn bd*fzd an ad)
theorem ce9(n d:Int): -1000000000000000≤fzn n d∧fzn n d≤1000000000000000∧1≤fzd n d∧fzd n d≤1000000000000000:=by
 unfold fzn fzd
 cases h:bq2 n d with
 |false=>simp
 |true=>
  simp only[bq2,fz4,decide_eq_true_eq]at h;have:=(bq0 n).1 h.2.2.1;simp only[cond_true];omega
theorem cf0{x y:Int}(hx: -1000000000000000≤x∧x≤1000000000000000)(hy:1≤y∧y≤1000000000000000):((x*y).natAbs:Int)=x.natAbs*y∧((x*y).natAbs:Int)≤1000000000000000000000000000000:=by
 have e:((x*y).natAbs:Int)=x.natAbs*y:=by rw[Int.natAbs_mul,Int.natCast_mul,Int.natAbs_of_nonneg (show 0≤y by omega)]
 refine⟨e,?_⟩;rw[e];have:=Int.mul_le_mul (show(x.natAbs:Int)≤1000000000000000 by omega) hy.2 Oa Oa;omega
theorem cf1{x y:Int}(hy:1≤y):sgn (x*y)=sgn x:=by
 rcases(show x>0∨x=0∨x<0 by omega)with h|h|h
 ·rw[ce4 h,ce4 (Int.mul_pos h Oa)]
 ·rw[h,Int.zero_mul]
 ·rw[ce5 h,ce5 (Int.mul_neg_of_neg_of_pos h Oa)]
theorem cf2(x:Int):sgn (-x)= -sgn x:=by
 rcases(show x>0∨x=0∨x<0 by omega)with h|h|h
 ·rw[ce4 h,ce5 Oa]
 ·rw[h];rfl
 ·rw[ce5 h,ce4 Oa];rfl
theorem cf3(x:Int): -1≤sgn x∧sgn x≤1:=by unfold sgn;split<;>(try split)<;>omega
theorem cf4(an ad bn bd:Int):Ev E 105 [.agg [.int an,.int ad],.agg [.int bn,.int bd]] (.d (.int (ce8 an ad bn bd))):=by
 have h1:=ce9 an ad;have h2:=ce9 bn bd;have hva:=bu6 an ad;have hvb:=bu6 bn bd
 have key:∀n d n' d':Int,(-1000000000000000≤n∧n≤1000000000000000)→(1≤d∧d≤1000000000000000)→(-1000000000000000≤n'∧n'≤1000000000000000)→(1≤d'∧d'≤1000000000000000)→
   Ev E 168 [.int (sgn n),.sl (cb2 (cc5 14 (n.natAbs*d'))),.int (0-sgn n'),.sl (cb2 (cc5 14 (n'.natAbs*d)))] (.tup [.int (sgn (n*d'-n'*d)),.sl (cb2 (cc5 14 (n*d'-n'*d).natAbs))]):=by
  intro n d n' d' hn hd hn' hd';obtain⟨m1,m2⟩:=cf0 hn hd';obtain⟨m3,m4⟩:=cf0 hn' hd;have:=ce7 (n*d') (-(n'*d)) m2 (by rw[Int.natAbs_neg];exact m4);rw[Int.natAbs_neg,m1,m3,cf1 hd'.1,cf2,cf1 hd.1,←Int.sub_eq_add_neg]at this;rw[show 0-sgn n'= -sgn n' by omega];exact this
 have hs:=key (fzn an ad) (fzd an ad) (fzn bn bd) (fzd bn bd) Oa Oa Oa Oa;have ht1:=cd4 (fzn an ad).natAbs (fzd bn bd) Oa Oa Oa Oa;have ht2:=cd4 (fzn bn bd).natAbs (fzd an ad) Oa Oa Oa Oa;have hz1:=bu0 (fzn an ad) Oa;have hz2:=bu0 (fzn bn bd) Oa;have hg1:=cc1 (fzn an ad);have hg2:=cc1 (fzn bn bd);have hgr:=cf3 (fzn bn bd);unfold ce8;generalize hres:(fzn an ad*fzd bn bd-fzn bn bd*fzd an ad)=res at*;clear hres key
 cases ha:bq2 an ad<;>cases hb:bq2 bn bd
 all_goals
  rw[ha]at hva;rw[hb]at hvb;simp only[fzn,fzd,ha,hb,cond_true,cond_false]at hs ht1 ht2 hz1 hz2 hg1 hg2 hgr h1 h2;refine ye2 func105 ntmps105 fun _ _ _=>?_
  repeat'(first|refine yz ?_|refine yp b167 hva ?_|refine yp b167 hvb ?_|refine yp b169 hg1 ?_|refine yp b169 hg2 ?_|refine yp b171 hz1 ?_|refine yp b171 hz2 ?_|refine yp b170 ht1 ?_|refine yp b170 ht2 ?_|refine yp b168 hs ?_|exact zD)
attribute [local irreducible] aw1
def sv(neg:Bool)(m:Nat):Int:=bif neg then-(m:Int)else m
end Go.Proofs.YtndgolmgaenlfaaGreatDoor
namespace Go.Proofs.YtndgolmgaenlfaaGreatDoor
set_option maxRecDepth 4000
open Go Go.Abs Go.Val Go.RowKit Go.Proofs.Tryz
def bs(l:List UInt8):ByteArray:=⟨l.toArray⟩
theorem cf5(a b:List UInt8):bs a++bs b=bs (a++b):=by
 apply ByteArray.ext;simp[bs,ByteArray.data_append]
theorem cf6(s:ByteArray):bs s.data.toList=s:=by
 cases s
 simp[bs]
theorem cf7(l:List UInt8):(bs l).size=l.length:=by simp[bs,ByteArray.size]
theorem cf8(l:List UInt8):(bs l).data.toList=l:=by simp[bs]
end Go.Proofs.YtndgolmgaenlfaaGreatDoor
namespace Go.Proofs.YtndgolmgaenlfaaGreatDoor
open Go Go.Abs Go.Val Go.RowKit Go.Proofs.Tryz
attribute [local irreducible] go SGo an9 Ev aw1
def dbl(l:List UInt8):List UInt8:=l.flatMap fun b=>bif b==39 then [39,39]else [b]
theorem cf9:∀l:List UInt8,(dbl l).length≤2*l.length
 |[]=>by simp[dbl]
 |b::r=>by
  have:=cf9 r;have e:dbl (b::r)=(bif b==39 then [39,39]else [b])++dbl r:=rfl;rw[e,fy8,fy7]
  cases b==39<;>simp<;>omega
theorem cg0:∀l:List UInt8,Lib.replaceK [39] [39,39] (Lib.count l [39]) l=dbl l
 |[]=>rfl
 |b::l=>by
  have ih:=cg0 l
  by_cases hb:b=39
  ·subst hb;have hidx:Lib.index (39::l) [39]=((0:Nat):Int):=rfl;rw[Lib.count_cons_eq,Nat.add_comm,Lib.replaceK_hit _ _ _ _ _ hidx];show []++ [39,39]++Lib.replaceK [39] [39,39] (Lib.count l [39]) l=_;rw[ih];rfl
  ·have e:dbl (b::l)=b::dbl l:=by
    show(bif b==39 then [39,39]else [b])++dbl l=_;rw[beq_eq_false_iff_ne.2 hb];rfl
   rw[Lib.count_cons_ne b 39 l hb,e]
   cases hc:Lib.count l [39]with
   |zero=>
    rw[hc]at ih;have:l=dbl l:=ih;show b::l=b::dbl l;rw[←this]
   |succ k=>
    obtain⟨i,hi⟩:=Lib.index_of_count (s:=l) (old:=[39]) Oa
    have hidx:Lib.index (b::l) [39]=((i+1:Nat):Int):=by
     have hp:([39]:List UInt8).isPrefixOf (b::l)=false:=by
      simp[List.isPrefixOf];exact fun h=>hb h.symm
     rw[Lib.index,hp,hi];have:((i:Int)== -1)=false:=Oc
     rw[this];rfl
    rw[hc,Lib.replaceK_hit _ _ _ _ _ hi]at ih;rw[Lib.replaceK_hit _ _ _ _ _ hidx,←ih];simp only[List.take_succ_cons,fy7,fz2,gb4];rw[show i+1+(0+1)=(i+(0+1))+1 by omega,List.drop_succ_cons]
theorem cg1(l:List UInt8):Lib.replaceAll l [39] [39,39]=dbl l:=by
 rw[Lib.replaceAll,Lib.replace,if_neg Od,Lib.replaceNum,if_pos (.inl Oa)];exact cg0 l
theorem cg2{f:FuncId}{a b c r:Value}(hok:Go.Abs.okV r=true)(h:∀(w:World) (F:Nat→Prop),E.GI w F→Go.Abs.okV a=true→Go.Abs.okV b=true→Go.Abs.okV c=true→Calls E.P f #[a,b,c] w fun e w'=>e=.returned r∧Below w.heap.size w w'):Ev E f [.imm a,.imm b,.imm c] (.d (.imm r)):=by
 refine bx4 hok fun w F vs hG hl hr=>?_
 match vs,hl with
 |[v,u,t],_=>
  obtain⟨rfl,hk⟩:=Rd.imm_inv (hr 0 _ v rfl rfl);obtain⟨rfl,hk'⟩:=Rd.imm_inv (hr 1 _ u rfl rfl);obtain⟨rfl,hk''⟩:=Rd.imm_inv (hr 2 _ t rfl rfl);exact h w F hG hk hk' hk''
theorem cg3(s:ByteArray)(hs:s.size≤1000000000):Ev E 227 [.str s,.str ⟨#[39]⟩,.str ⟨#[39,39]⟩] (.d (.str (bs (dbl s.data.toList)))):=by
 have hl:s.data.toList.length=s.size:=Oc
 have hd2:=cf9 s.data.toList;refine cg2 ?_ fun w F hG _ _ _=>?_
 ·simp only[Go.Abs.okV,decide_eq_true_eq,cf7,maxLen];omega
 ·obtain⟨-,-,m,hm⟩:=hG.2;have hcnt:=Lib.countB_mul_le ⟨#[39]⟩ Od s.size s (fz6 _);have h1:(⟨#[39]⟩:ByteArray).size=1:=rfl;have h2:(⟨#[39,39]⟩:ByteArray).size=2:=rfl;rw[h1,Nat.mul_one]at hcnt;refine(Tryz.strings_ReplaceAll s ⟨#[39]⟩ ⟨#[39,39]⟩ m w Oa hm Od (by rw[h2];omega)).mono ?_;rintro e w' ⟨rfl,hb⟩;refine⟨?_,hb⟩;show Ending.returned (.string (bs (Lib.replaceAll s.data.toList [39] [39,39])))=_;rw[cg1]
def ftxt(n d:Int):List UInt8:=bif bq2 n d then(bif d==1 then Lib.itoa n else Lib.itoa n++ [47]++Lib.itoa d)else []
theorem cg4{n:Int}(h:inR .i64 n):(Lib.itoa n).length≤21:=Lib.itoa_length_le n h.1 h.2
theorem cg5(n d:Int):Ev E 226 [.agg [.int n,.int d]] (.d (.str (bs (ftxt n d)))):=Ev.fit fun hfit=>by
 have hn:=cg4 ((hfit _ (gj1)).aggs (.int n) Oc).int;have hd:=cg4 ((hfit _ (gj1)).aggs (.int d) Oc).int;have hv:=bu5 n d;unfold ftxt
 cases hf:bq2 n d with
 |false=>
  rw[hf]at hv;show Ev E _ _ (.d (.str ⟨#[]⟩));refine ye1 func226 ntmps226 fun _ _ _=>?_
  repeat'(first|refine yz ?_|refine yp b284 hv ?_|exact zD)
 |true=>
  rw[hf]at hv
  cases h1:d==1 with
  |true=>
   refine ye1 func226 ntmps226 fun _ _ _=>?_
   repeat'(first|refine yz ?_|refine yp b284 hv ?_|refine yp br7 (bx7 n) ?_|exact zD)
  |false=>
   have e:bs (Lib.itoa n++ [47]++Lib.itoa d)=⟨(Lib.itoa n).toArray⟩++⟨#[47]⟩++⟨(Lib.itoa d).toArray⟩:=by
    rw[←cf5,←cf5];rfl
   simp only[cond_true,cond_false];rw[e];have z1:(⟨(Lib.itoa n).toArray⟩:ByteArray).size≤21:=by show(bs (Lib.itoa n)).size≤21;rw[cf7];exact hn
   have z2:(⟨(Lib.itoa d).toArray⟩:ByteArray).size≤21:=by show(bs (Lib.itoa d)).size≤21;rw[cf7];exact hd
   have z3:(⟨#[47]⟩:ByteArray).size=1:=rfl;refine ye1 func226 ntmps226 fun _ _ _=>?_
   repeat'(first|refine yz ?_|refine yp b284 hv ?_|refine qP (d:=16) rfl rfl rfl rfl rfl rfl br7 (bx7 n) ?_|refine yp br7 (bx7 d) ?_|exact zD)
end Go.Proofs.YtndgolmgaenlfaaGreatDoor
namespace Go.Proofs.YtndgolmgaenlfaaGreatDoor
set_option maxRecDepth 4000
open Go Go.Abs Go.Val Go.RowKit Go.Proofs.Tryz
mutual
def txt:V→List UInt8
 |.mk k n d s l=>
  bif !(Val.okV (.mk k n d s l))then [63]else
  bif k==1 then(bif n==1 then [116,114,117,101]else [102,97,108,115,101])else
  bif k==2 then Lib.itoa n else
  bif k==3 then Lib.itoa n++ [47]++Lib.itoa d else
  bif k==4 then [39]++dbl s.data.toList++ [39]else
  bif k==5 then [35]++Lib.itoa n else
  bif k==6 then [64]++Lib.itoa n else
  bif k==8 then [91]++Lib.join (cg6 l) [44,32]++ [93]else
  bif k==7 then [60]++Lib.join (cg6 l) [32]++ [62]else [110,117,108,108]
def cg6:List V→List (List UInt8)
 |[]=>[]
 |v::r=>txt v::cg6 r
end
theorem cg7(l:List V):cg6 l=l.map txt:=by
 induction l with
 |nil=>simp[cg6]
 |cons v r ih=>simp[cg6,ih]
theorem cg8(sep:List UInt8):∀(xs:List (List UInt8)) (x:List UInt8),x∈xs→x.length≤(Lib.join xs sep).length
 |[],x,h=>by simp at h
 |a::r,x,h=>by
  rw[Lib.join_cons,fy8];rcases fz0.1 h with e|e
  ·rw[e];omega
  ·have:x.length≤(Lib.joinTail sep r).length:=by
    clear h
    induction r with
    |nil=>simp at e
    |cons b q ih=>
     have hc:Lib.joinTail sep (b::q)=(sep++b)++Lib.joinTail sep q:=rfl;rw[hc,fy8,fy8];rcases fz0.1 e with e'|e'
     ·rw[e'];omega
     ·have:=ih e';omega
   omega
theorem cg9{v:V}(h:Val.okV v=true):v.k=0∨v.k=1∨v.k=2∨v.k=3∨v.k=4∨v.k=5∨v.k=6∨v.k=7∨v.k=8:=by
 unfold Val.okV at h;simp only[okN,bq5,gb0,fz4,beq_iff_eq]at h;omega
theorem okV_3{n d:Int}{s:ByteArray}{l:List V}(h:Val.okV (.mk 3 n d s l)=true):d≥2∧bq2 n d=true:=by
 unfold Val.okV at h;rw[bw2 8 3 n d s l Oa Oa]at h;simp[bq5,V.k,V.n,V.d,V.s,V.l]at h;exact⟨h.2.1,h.2.2⟩
theorem ch0{n d:Int}{s:ByteArray}{l:List V}(h:Val.okV (.mk 4 n d s l)=true):s.size≤100:=by
 unfold Val.okV at h;rw[bw2 8 4 n d s l Oa Oa]at h;simp[bq5,V.k,V.n,V.d,V.s,V.l,bq4]at h;exact of_decide_eq_true h.2.2.2
theorem okV_7{n d:Int}{s:ByteArray}{l:List V}(h:Val.okV (.mk 7 n d s l)=true):l.length≤25:=by
 unfold Val.okV at h;rw[bw3]at h;simp only[bq8,fz4,decide_eq_true_eq]at h;omega
theorem okV_8{n d:Int}{s:ByteArray}{l:List V}(h:Val.okV (.mk 8 n d s l)=true):l.length≤64:=by
 unfold Val.okV at h;rw[bw5 7]at h;simp only[fz4,decide_eq_true_eq]at h;omega
theorem ch1(xs:List ByteArray)(sep:ByteArray)(hN:xs.length≤140737488355328)(hlen:(Lib.join (xs.map (·.data.toList)) sep.data.toList).length≤140737488355328):Ev E 84 [.sl (xs.map .str),.str sep] (.d (.str (bs (Lib.join (xs.map (·.data.toList)) sep.data.toList)))):=by
 intro w F vs hF hG hl hr
 match vs,hl with
 |[v,u],_=>
  have h0:=hr 0 _ v rfl rfl;obtain⟨rfl,-⟩:=Rd.imm_inv (hr 1 _ u rfl rfl)
  have hok:Go.Abs.okV (.string (bs (Lib.join (xs.map (·.data.toList)) sep.data.toList)))=true:=by
   simp only[Go.Abs.okV,decide_eq_true_eq,cf7,maxLen];omega
  have hnone:∀(a:Option Addr) (c:Nat),v=.slice a 0 c→xs=[]→Calls E.P 84 #[v,.string sep] w fun e w'=>∃v F',e=.returned v∧Ext w F w' F'∧RdX w' F' [] (.d (.str (bs (Lib.join (xs.map (·.data.toList)) sep.data.toList)))) v:=by
   rintro a c rfl rfl;refine(Tryz.strings_Join_none a c sep w).mono ?_;rintro e w' ⟨rfl,rfl⟩;exact⟨_,F,rfl,Ext.refl hF,Rd.imm _ hok⟩
  rcases Rd.sl_inv h0 with⟨hx,rfl⟩|⟨size,ad,cap,rfl,h1,h2,h3,h4,h5,h6⟩
  ·exact hnone none 0 rfl (by simpa using hx)
  ·by_cases hx:xs=[]
   ·exact hnone _ _ (by rw[hx];rfl) hx
   ·have hlen':(xs.map D.str).length=xs.length:=by simp
    have hcell:∀(j:Nat) x,xs[j]? =some x→w.cell? (ad.add j)=some (.string x):=by
     intro j x hj;have hj':(xs.map D.str)[j]? =some (.str x):=by rw[fz1,hj];rfl
     have hs1:size=1:=(h4 _ (fy6 hj')).symm;obtain⟨q,e1,e2⟩:=h6 j _ 0 _ hj' rfl;obtain⟨rfl,-⟩:=Rd.imm_inv e2;rw[hs1,Nat.mul_one,gd2]at e1;exact e1
    obtain⟨bk,o,sp⟩:=ad
    have hsp:sp=none:=by
     obtain⟨x0,hx0⟩:∃x,xs[0]? =some x:=⟨xs[0]'(List.length_pos_iff.2 hx),fy4 _⟩;have:=hcell 0 x0 hx0
     cases sp with
     |none=>rfl
     |some q=>
      have e:(⟨bk,o,some q⟩:Addr).add 0=⟨bk,o,some q⟩:=by simp[Addr.add]
      rw[e]at this;unfold World.cell? at this;simp only[Option.isSome_some,if_true]at this;split at this<;>cases this
    subst hsp;rw[hlen']at h1 ⊢;have hbk:bk<w.heap.size:=hF _ (h3 (by simpa using hx));refine(Tryz.strings_Join bk o cap xs sep w (fun j x hj=>by rw[←aa2];exact hcell j x hj) hbk hN h1 hlen).mono ?_;rintro e w' ⟨rfl,hb⟩;exact⟨_,F,rfl,Ext.of_below hb hF,Rd.imm _ hok⟩
end Go.Proofs.YtndgolmgaenlfaaGreatDoor
namespace Go.Proofs.YtndgolmgaenlfaaGreatDoor
open Go Go.Abs Go.Val Go.RowKit Go.Proofs.Tryz
attribute [local irreducible] go SGo an9 Ev aw1
set_option maxRecDepth 4000
def ch2(xs:List (List UInt8)):List D:=xs.map fun t=>.str (bs t)
structure STx(l:List V) where
 i:Nat
 hi:i≤l.length
theorem ch3{l:List V}{i:Nat}{x:V}(h:l[i]? =some x):ch2 ((l.take (i+1)).map txt)=ch2 ((l.take i).map txt)++ [.str (bs (txt x))]:=by
 have hi:=(fy9.1 h).1;rw[gi7 hi];rw[fy4 hi]at h
 cases h
 simp only[ch2,gg7,fz7,gd8]
theorem ch4(l:List V)(sep:List UInt8)(hT:∀x∈l,Ev E 152 [enc x] (.d (.str (bs (txt x)))))(hn:l.length≤1000000)(hlen:(Lib.join (l.map txt) sep).length≤1099511627776):
  Ev E 228 [.sl (bp2 l),.str (bs sep)] (.d (.str (bs (Lib.join (l.map txt) sep)))):=by
 have hle:(bp2 l).length=l.length:=bp7 l;have e1:(l.map fun x=>bs (txt x)).map D.str=ch2 (l.map txt):=by simp[ch2]
 have e2:(l.map fun x=>bs (txt x)).map (·.data.toList)=l.map txt:=by simp[cf8]
 have hj:=ch1 (l.map fun x=>bs (txt x)) (bs sep) Og (by rw[e2,cf8];omega);rw[e1,e2,cf8]at hj;refine ye2 func228 ntmps228 fun _ _ _=>?_
 repeat'(refine yz ?_)
 refine ac8 (α:=STx l) (fun p=>⟨[(1,.d (.str (bs sep))),(5,ax9 (ch2 ((l.take p.i).map txt))),(8,.d (.sl (bp2 l))),(9,.d (.int (bp2 l).length)),(10,.d (.int p.i))],ay0 9 1 (ch2 ((l.take p.i).map txt))⟩) (fun p=>l.length-p.i) ⟨0,by omega⟩ (by rw[gc8];exact(zle 0)) ?_;rintro⟨i,hi⟩;dsimp only;rcases fy5 i l.length with hlt|hge
 ·have g1:decide ((i:Int)<((bp2 l).length:Int))=true:=by rw[hle];simpa using hlt
  have hx0:=fy4 hlt;generalize l[i]=x at hx0;have hx:(bp2 l)[(i:Int).toNat]? =some (enc x):=bp5 (by rw[gb1];exact hx0);have ht:=hT x (fy6 hx0);have hta:=ch3 hx0;have hll:(ch2 ((l.take i).map txt)).length≤i:=by simp[ch2];omega
  generalize ch2 ((l.take i).map txt)=out at*
  match out,hll with
  |[],hll=>
   dsimp only[ax9,ay0]
   repeat'(first|refine yz ?_|refine yi (enc x) hx ?_|refine yp b152 ht ?_|(refine qS rfl ⟨by simp,by simp[D.cells];rfl,by(show(0+1)*16≤140737488355328;omega),by(show 0+1≤9223372036854775807;omega)⟩ ?_))
   refine ac2 ?_;refine⟨⟨i+1,by omega⟩,by dsimp only;omega,?_⟩;dsimp only;rw[hta];exact(bi7 [1])
  |a::q,hll=>
   dsimp only[ax9,ay0]
   repeat'(first|refine yz ?_|refine yi (enc x) hx ?_|refine yp b152 ht ?_|(refine qS rfl ⟨by simp,by simp[D.cells];rfl,by(show((a::q).length+1)*16≤140737488355328;omega),by(show(a::q).length+1≤9223372036854775807;omega)⟩ ?_))
   refine ac2 ?_;refine⟨⟨i+1,by omega⟩,by dsimp only;omega,?_⟩;dsimp only;rw[hta];exact(bi7 [2])
 ·have g1:decide ((i:Int)<((bp2 l).length:Int))=false:=by rw[hle];simp;omega
  rw[ga3 hge];generalize ch2 (l.map txt)=out at*
  match out,hj with
  |[],hj=>
   dsimp only[ax9,ay0]
   repeat'(first|refine yz ?_|refine yp b84 hj ?_|exact zD)
  |a::q,hj=>
   dsimp only[ax9,ay0];refine qA ?_;refine av3 0 rfl ?_
   repeat'(first|refine yz ?_|refine yp b84 hj ?_|exact zD)
theorem ch5(v:V):(txt v).length≤1099511627776→Ev E 152 [enc v] (.d (.str (bs (txt v)))):=by
 refine vind (P:=fun v=>(txt v).length≤1099511627776→Ev E 152 [enc v] (.d (.str (bs (txt v))))) (fun k n d s l ih hlen=>Ev.fit fun hfit=>?_) v;obtain⟨-,hn,hd,-,-,-⟩:=bp8 (hfit (enc (.mk k n d s l)) Oc);have hv:=bx0 by5 (.mk k n d s l)
 cases hok:Val.okV (.mk k n d s l)with
 |false=>
  rw[hok]at hv;have e:txt (.mk k n d s l)=[63]:=by simp only[txt,hok];rfl
  rw[e];show Ev E _ _ (.d (.str ⟨#[63]⟩));refine ye1 func152 ntmps152 fun _ _ _=>?_
  repeat'(first|refine yz ?_|refine yp bs7 hv ?_|exact zD)
 |true=>
  rw[hok]at hv;have ln:=cg4 hn;have ld:=cg4 hd;have zn:(bs (Lib.itoa n)).size≤21:=by rw[cf7];exact ln
  have zn':(⟨(Lib.itoa n).toArray⟩:ByteArray).size≤21:=zn;have o2:(⟨#[39]⟩:ByteArray).size=1:=rfl;have o3:(⟨#[35]⟩:ByteArray).size=1:=rfl;have o4:(⟨#[64]⟩:ByteArray).size=1:=rfl;have o5:(⟨#[91]⟩:ByteArray).size=1:=rfl;have o6:(⟨#[93]⟩:ByteArray).size=1:=rfl;have o7:(⟨#[60]⟩:ByteArray).size=1:=rfl;have o8:(⟨#[62]⟩:ByteArray).size=1:=rfl;have hk:=cg9 hok;simp only[V.k]at hk;have tn:=bx7 n;have td:=bx7 d;rcases hk with rfl|rfl|rfl|rfl|rfl|rfl|rfl|rfl|rfl
  ·have e:txt (.mk 0 n d s l)=[110,117,108,108]:=by simp only[txt,hok];rfl
   rw[e];show Ev E _ _ (.d (.str ⟨#[110,117,108,108]⟩));refine ye1 func152 ntmps152 fun _ _ _=>?_
   repeat'(first|refine yz ?_|refine yp bs7 hv ?_|exact zD)
  ·have e:bs (txt (.mk 1 n d s l))=⟨(Lib.formatBool (n==1)).toArray⟩:=by
    have:txt (.mk 1 n d s l)=(bif n==1 then [116,114,117,101]else [102,97,108,115,101]):=by simp only[txt,hok];rfl
    rw[this]
    cases n==1<;>decide
   rw[e];have hb:=bx8 (n==1);refine ye1 func152 ntmps152 fun _ _ _=>?_
   repeat'(first|refine yz ?_|refine yp bs7 hv ?_|refine yp b225 hb ?_|exact zD)
  ·have e:txt (.mk 2 n d s l)=Lib.itoa n:=by simp only[txt,hok];rfl
   rw[e];refine ye1 func152 ntmps152 fun _ _ _=>?_
   repeat'(first|refine yz ?_|refine yp bs7 hv ?_|refine yp br7 tn ?_|exact zD)
  ·obtain⟨h2,h3⟩:=okV_3 hok
   have e:txt (.mk 3 n d s l)=ftxt n d:=by
    have hd1:(d==1)=false:=Og
    simp only[txt,hok,ftxt,h3,hd1];rfl
   rw[e];have hf:=cg5 n d;refine ye1 func152 ntmps152 fun _ _ _=>?_
   repeat'(first|refine yz ?_|refine yp bs7 hv ?_|refine yp b226 hf ?_|exact zD)
  ·have e:bs (txt (.mk 4 n d s l))=⟨#[39]⟩++bs (dbl s.data.toList)++⟨#[39]⟩:=by
    show _=bs [39]++bs (dbl s.data.toList)++bs [39];rw[cf5,cf5];simp only[txt,hok];rfl
   rw[e];have h4:=ch0 hok;have hdb:=cg3 s Oa;have hl2:=cf9 s.data.toList;have hsl:s.data.toList.length=s.size:=Oc
   have zs:(bs (dbl s.data.toList)).size≤200:=by rw[cf7];omega
   refine ye1 func152 ntmps152 fun _ _ _=>?_
   repeat'(first|refine yz ?_|refine yp bs7 hv ?_|refine yp b227 hdb ?_|exact zD)
  ·have e:bs (txt (.mk 5 n d s l))=⟨#[35]⟩++⟨(Lib.itoa n).toArray⟩:=by
    show _=bs [35]++bs (Lib.itoa n);rw[cf5];simp only[txt,hok];rfl
   rw[e];refine ye1 func152 ntmps152 fun _ _ _=>?_
   repeat'(first|refine yz ?_|refine yp bs7 hv ?_|refine yp br7 tn ?_|exact zD)
  ·have e:bs (txt (.mk 6 n d s l))=⟨#[64]⟩++⟨(Lib.itoa n).toArray⟩:=by
    show _=bs [64]++bs (Lib.itoa n);rw[cf5];simp only[txt,hok];rfl
   rw[e];refine ye1 func152 ntmps152 fun _ _ _=>?_
   repeat'(first|refine yz ?_|refine yp bs7 hv ?_|refine yp br7 tn ?_|exact zD)
  ·have e0:txt (.mk 7 n d s l)=[60]++Lib.join (l.map txt) [32]++ [62]:=by simp only[txt,hok,cg7];rfl
   have e:bs (txt (.mk 7 n d s l))=⟨#[60]⟩++bs (Lib.join (l.map txt) [32])++⟨#[62]⟩:=by
    show _=bs [60]++bs (Lib.join (l.map txt) [32])++bs [62];rw[cf5,cf5,e0]
   rw[e]
   have hjl:(Lib.join (l.map txt) [32]).length≤1099511627776:=by
    rw[e0,fy8,fy8]at hlen;omega
   have hj:=ch4 l [32] (fun x hx=>ih x hx (gb8 (cg8 [32] _ _ (gc4 hx)) hjl)) (by have:=okV_7 hok;omega) hjl;have zj:(bs (Lib.join (l.map txt) [32])).size≤1099511627776:=by rw[cf7];exact hjl
   refine ye1 func152 ntmps152 fun _ _ _=>?_
   repeat'(first|refine yz ?_|refine yp bs7 hv ?_|refine yp b228 hj ?_|exact zD)
  ·have e0:txt (.mk 8 n d s l)=[91]++Lib.join (l.map txt) [44,32]++ [93]:=by simp only[txt,hok,cg7];rfl
   have e:bs (txt (.mk 8 n d s l))=⟨#[91]⟩++bs (Lib.join (l.map txt) [44,32])++⟨#[93]⟩:=by
    show _=bs [91]++bs (Lib.join (l.map txt) [44,32])++bs [93];rw[cf5,cf5,e0]
   rw[e]
   have hjl:(Lib.join (l.map txt) [44,32]).length≤1099511627776:=by
    rw[e0,fy8,fy8]at hlen;omega
   have hj:=ch4 l [44,32] (fun x hx=>ih x hx (gb8 (cg8 [44,32] _ _ (gc4 hx)) hjl)) (by have:=okV_8 hok;omega) hjl;have zj:(bs (Lib.join (l.map txt) [44,32])).size≤1099511627776:=by rw[cf7];exact hjl
   refine ye1 func152 ntmps152 fun _ _ _=>?_
   repeat'(first|refine yz ?_|refine yp bs7 hv ?_|refine yp b228 hj ?_|exact zD)
attribute [local irreducible] EvO
def ci(x y:Int):Int:=Lib.compareInt x y
theorem ch6{x y:Int}(h:x<y):ci x y= -1:=by unfold ci Lib.compareInt;rw[if_pos h]
theorem ch7{x y:Int}(h:x>y):ci x y=1:=by unfold ci Lib.compareInt;rw[if_neg Oa,if_pos h]
theorem ch8(x:Int):ci x x=0:=by unfold ci Lib.compareInt;rw[if_neg Oa,if_neg Oa]
def cs(a b:ByteArray):Int:=bif Op.bytesLess a.toList b.toList then-1 else bif (Op.bytesLess a.toList b.toList||a.toList==b.toList)then 0 else 1
def orI(x y:Int):Int:=bif x !=0 then x else y
theorem ch9(x y:Int):Ev E 102 [.int x,.int y] (.d (.int (ci x y))):=by
 rcases(show x<y∨x=y∨x>y by omega)with h|h|h
 ·rw[ch6 h];have g1:decide (x<y)=true:=by simpa using h
  refine ye2 func102 ntmps102 fun _ _ _=>?_
  exact Om
 ·subst h;rw[ch8];have g1:decide (x<x)=false:=by simp
  have g2:decide (x>x)=false:=Oc
  refine ye2 func102 ntmps102 fun _ _ _=>?_
  exact Om
 ·rw[ch7 h];have g1:decide (x<y)=false:=by simp;omega
  have g2:decide (x>y)=true:=by simpa using h
  refine ye2 func102 ntmps102 fun _ _ _=>?_
  exact Om
theorem ci0(a b:ByteArray):Ev E 165 [.str a,.str b] (.d (.int (cs a b))):=by
 unfold cs
 cases h1:Op.bytesLess a.toList b.toList with
 |true=>
  refine ye2 func165 ntmps165 fun _ _ _=>?_
  exact Om
 |false=>
  cases h2:a.toList==b.toList with
  |true=>
   have g2:(!(Op.bytesLess a.toList b.toList||a.toList==b.toList))=false:=by rw[h1,h2];rfl
   refine ye2 func165 ntmps165 fun _ _ _=>?_
   exact Om
  |false=>
   have g2:(!(Op.bytesLess a.toList b.toList||a.toList==b.toList))=true:=by rw[h1,h2];rfl
   refine ye2 func165 ntmps165 fun _ _ _=>?_
   exact Om
def ci1(g:V→V→Int):List V→List V→Int
 |[],[]=>0
 |[],_::_=> -1
 |_::_,[]=>1
 |x::r,y::q=>orI (g x y) (ci1 g r q)
theorem ci2(g:V→V→Int)(a b:List V)(h:a=[]∨b=[]):ci1 g a b=ci a.length b.length:=by
 cases a with
 |nil=>
  cases b with
  |nil=>exact(ch8 0).symm
  |cons y q=>simp only[ci1];rw[ch6 (by simp only[fz2,fy7];omega)]
 |cons x r=>
  cases b with
  |nil=>simp only[ci1];rw[ch7 (by simp only[fz2,fy7];omega)]
  |cons y q=>rcases h with h|h<;>cases h
structure SCF(g:V→V→Int)(a b:List V) where
 i:Nat
 hi:i≤a.length
 hj:i≤b.length
 ok:ci1 g a b=ci1 g (a.drop i) (b.drop i)
def ci3(k:Int):Int:=bif k==0 then 0 else bif k==1 then 1 else bif k==2||k==3 then 2 else bif k==4 then 3 else bif k==5 then 4 else bif k==6 then 5 else bif k==8 then 6 else 7
def ci4(a b:V)(t:Int):Int:=orI (ci a.k b.k) (orI (ci a.n b.n) (orI (ci a.d b.d) (orI (cs a.s b.s) t)))
def ci5(a b:V)(t:Int):Int:=
 bif Val.okV a !=Val.okV b then 1-tt (Val.okV a)else
 bif !Val.okV a then ci4 a b t else
 bif ci (ci3 a.k) (ci3 b.k) !=0 then ci (ci3 a.k) (ci3 b.k)else
 bif br0 a then ce8 (br1 a) (br2 a) (br1 b) (br2 b)else ci4 a b t
mutual
def ci6:V→V→Int
 |.mk k n d s l,b=>ci5 (.mk k n d s l) b (ci7 l b.l)
def ci7:List V→List V→Int
 |[],[]=>0
 |[],_::_=> -1
 |_::_,[]=>1
 |x::r,y::q=>orI (ci6 x y) (ci7 r q)
end
theorem ci8:∀a b:List V,ci7 a b=ci1 ci6 a b
 |[],[]=>by simp[ci7,ci1]
 |[],_::_=>by simp[ci7,ci1]
 |_::_,[]=>by simp[ci7,ci1]
 |x::r,y::q=>by simp only[ci7,ci1,ci8 r q]
theorem ci9(a b:V):ci6 a b=ci5 a b (ci1 ci6 a.l b.l):=by
 cases a
 simp only[ci6,ci8,V.l]
theorem cj1(k:Int):Ev E 103 [.int k] (.d (.int (ci3 k))):=by
 unfold ci3
 cases h0:k==0 with
 |true=>
  refine ye1 func103 ntmps103 fun _ _ _=>?_
  exact Om
 |false=>
 cases h1:k==1 with
 |true=>
  refine ye1 func103 ntmps103 fun _ _ _=>?_
  exact Om
 |false=>
 cases h2:k==2 with
 |true=>
  refine ye1 func103 ntmps103 fun _ _ _=>?_
  exact Om
 |false=>
 cases h3:k==3 with
 |true=>
  refine ye1 func103 ntmps103 fun _ _ _=>?_
  exact Om
 |false=>
 cases h4:k==4 with
 |true=>
  refine ye1 func103 ntmps103 fun _ _ _=>?_
  exact Om
 |false=>
 cases h5:k==5 with
 |true=>
  refine ye1 func103 ntmps103 fun _ _ _=>?_
  exact Om
 |false=>
 cases h6:k==6 with
 |true=>
  refine ye1 func103 ntmps103 fun _ _ _=>?_
  exact Om
 |false=>
 cases h8:k==8 with
 |true=>
  refine ye1 func103 ntmps103 fun _ _ _=>?_
  exact Om
 |false=>
  refine ye1 func103 ntmps103 fun _ _ _=>?_
  exact Om
theorem cj2(a b:List V)(hf:∀x∈a,∀y∈b,Ev E 52 [enc x,enc y] (.d (.int (ci6 x y)))):Ev E 166 [.sl (bp2 a),.sl (bp2 b)] (.d (.int (ci1 ci6 a b))):=Ev.fit fun hfit=>by
 obtain⟨hma,-⟩:=bp9 (hfit (.sl (bp2 a)) Oc);obtain⟨hmb,-⟩:=bp9 (hfit (.sl (bp2 b)) Oc);have hla:(bp2 a).length=a.length:=bp7 a;have hlb:(bp2 b).length=b.length:=bp7 b;refine ye2 func166 ntmps166 fun _ _ _=>?_
 repeat'(first|refine yz ?_|refine yx ?_|(refine yy ?_ ?_<;>intro _)|exact zD|exact zL)
 refine ac8 (α:=SCF ci6 a b) (fun p=>⟨[(0,.d (.sl (bp2 a))),(1,.d (.sl (bp2 b))),(5,.d (.int p.i))],[]⟩) (fun p=>a.length-p.i) ⟨0,by omega,by omega,rfl⟩ (zle 0) ?_;rintro⟨i,hi,hj,ok⟩;dsimp only
 have hend:(i=a.length∨i=b.length)→ci1 ci6 a b=ci ((bp2 a).length:Int) ((bp2 b).length:Int):=by
  intro h;rw[ok,ci2]
  ·rw[hla,hlb];rcases(show(a.length:Int)<b.length∨(a.length:Int)=b.length∨(a.length:Int)>b.length by omega)with h'|h'|h'
   ·rw[ch6 h',ch6 (by simp only[gf4];omega)]
   ·rw[h',ch8,show((a.drop i).length:Int)=((b.drop i).length:Int) by simp only[gf4];omega,ch8]
   ·rw[ch7 h',ch7 (by simp only[gf4];omega)]
  ·rcases h with h|h
   ·exact .inl (ga2 Oa)
   ·exact .inr (ga2 Oa)
 have hin:=ch9 ((bp2 a).length:Int) ((bp2 b).length:Int);rcases fy5 i a.length with hlt|hge
 ·have g1:decide ((i:Int)<((bp2 a).length:Int))=true:=by rw[hla];simpa using hlt
  rcases fy5 i b.length with hltb|hgeb
  ·have g2:decide ((i:Int)<((bp2 b).length:Int))=true:=by rw[hlb];simpa using hltb
   have hx0:=fy4 hlt;generalize a[i]=x at hx0;have hx:(bp2 a)[(i:Int).toNat]? =some (enc x):=bp5 (by rw[gb1];exact hx0);have hy0:=fy4 hltb;generalize b[i]=y at hy0;have hy:(bp2 b)[(i:Int).toNat]? =some (enc y):=bp5 (by rw[gb1];exact hy0);have hxy:=hf x (fy6 hx0) y (fy6 hy0);rw[ok,bv7 hx0,bv7 hy0];simp only[ci1,orI]
   cases h:ci6 x y !=0 with
   |true=>
    repeat'(first|refine yz ?_|refine yi (enc x) hx ?_|refine yi (enc y) hy ?_|refine yp b52 hxy ?_|refine yx ?_|(refine yy ?_ ?_<;>intro _)|exact zD|exact zL)
   |false=>
    repeat'(first|refine yz ?_|refine yi (enc x) hx ?_|refine yi (enc y) hy ?_|refine yp b52 hxy ?_|refine yx ?_|(refine yy ?_ ?_<;>intro _)|exact zD|exact zL)
    refine ac2 ?_;exact⟨⟨i+1,by omega,by omega,by rw[ok,bv7 hx0,bv7 hy0];simp only[ci1,orI];rw[h];rfl⟩,by dsimp only;omega,(zle 0)⟩
  ·have g2:decide ((i:Int)<((bp2 b).length:Int))=false:=by rw[hlb];simp;omega
   rw[hend (.inr Oa)]
   repeat'(first|refine yz ?_|refine yp br3 hin ?_|refine yx ?_|(refine yy ?_ ?_<;>intro _)|exact zD|exact zL)
 ·have g1:decide ((i:Int)<((bp2 a).length:Int))=false:=by rw[hla];simp;omega
  rw[hend (.inl Oa)]
  repeat'(first|refine yz ?_|refine yp br3 hin ?_|refine yx ?_|(refine yy ?_ ?_<;>intro _)|exact zD|exact zL)
theorem cj3(a b:V)(hf:∀x∈a.l,∀y∈b.l,Ev E 52 [enc x,enc y] (.d (.int (ci6 x y)))):Ev E 101 [enc a,enc b] (.d (.int (ci4 a b (ci1 ci6 a.l b.l)))):=by
 have hl:=cj2 a.l b.l hf;rw[bp3,bp3,←bp4,←bp4]at hl;unfold ci4 orI
 cases h1:ci a.k b.k !=0 with
 |true=>
  refine ye2 func101 ntmps101 fun _ _ _=>?_
  repeat'(first|refine yz ?_|refine yp br3 (ch9 _ _) ?_|refine yx ?_|(refine yy ?_ ?_<;>intro _)|exact zD|exact zL)
 |false=>
 cases h2:ci a.n b.n !=0 with
 |true=>
  refine ye2 func101 ntmps101 fun _ _ _=>?_
  repeat'(first|refine yz ?_|refine yp br3 (ch9 _ _) ?_|refine yx ?_|(refine yy ?_ ?_<;>intro _)|exact zD|exact zL)
 |false=>
 cases h3:ci a.d b.d !=0 with
 |true=>
  refine ye2 func101 ntmps101 fun _ _ _=>?_
  repeat'(first|refine yz ?_|refine yp br3 (ch9 _ _) ?_|refine yx ?_|(refine yy ?_ ?_<;>intro _)|exact zD|exact zL)
 |false=>
 cases h4:cs a.s b.s !=0 with
 |true=>
  refine ye2 func101 ntmps101 fun _ _ _=>?_
  repeat'(first|refine yz ?_|refine yp br3 (ch9 _ _) ?_|refine yp b165 (ci0 _ _) ?_|refine yx ?_|(refine yy ?_ ?_<;>intro _)|exact zD|exact zL)
 |false=>
  refine ye2 func101 ntmps101 fun _ _ _=>?_
  repeat'(first|refine yz ?_|refine yp br3 (ch9 _ _) ?_|refine yp b165 (ci0 _ _) ?_|refine yp b166 hl ?_|refine yx ?_|(refine yy ?_ ?_<;>intro _)|exact zD|exact zL)
theorem cj4(a:V):∀b:V,Ev E 52 [enc a,enc b] (.d (.int (ci6 a b))):=by
 refine vind (P:=fun a=>∀b:V,Ev E 52 [enc a,enc b] (.d (.int (ci6 a b)))) (fun k n d s l ih b=>?_) a;have hfl:=cj3 (.mk k n d s l) b (fun x hx y _=>ih x hx y);rw[ci9];generalize V.mk k n d s l=a at*;clear ih;have va:=bx1 a;have vb:=bx1 b;have na:=bx3 a;have nb:=bx3 b;have hc:=cf4 (br1 a) (br2 a) (br1 b) (br2 b);have hcl:=ch9 (ci3 a.k) (ci3 b.k);unfold ci5
 cases h1:Val.okV a !=Val.okV b with
 |true=>
  have hy:=bu7 (Val.okV a);have htt:0≤tt (Val.okV a)∧tt (Val.okV a)≤2:=by cases Val.okV a<;>decide
  refine ye2 func52 ntmps52 fun _ _ _=>?_
  repeat'(first|refine yz ?_|refine yp b99 va ?_|refine yp b99 vb ?_|refine yp b100 hy ?_|refine yx ?_|(refine yy ?_ ?_<;>intro _)|exact zD|exact zL)
 |false=>
 cases h2:Val.okV a with
 |false=>
  have g2:(!Val.okV a)=true:=by rw[h2];rfl
  refine ye2 func52 ntmps52 fun _ _ _=>?_
  repeat'(first|refine yz ?_|refine yp b99 va ?_|refine yp b99 vb ?_|refine yp b101 hfl ?_|refine yx ?_|(refine yy ?_ ?_<;>intro _)|exact zD|exact zL)
 |true=>
 have g2:(!Val.okV a)=false:=by rw[h2];rfl
 cases h3:ci (ci3 a.k) (ci3 b.k) !=0 with
 |true=>
  refine ye2 func52 ntmps52 fun _ _ _=>?_
  repeat'(first|refine yz ?_|refine yp b99 va ?_|refine yp b99 vb ?_|refine yp b103 (cj1 _) ?_|refine yp br3 hcl ?_|refine yx ?_|(refine yy ?_ ?_<;>intro _)|exact zD|exact zL)
 |false=>
 cases h4:br0 a with
 |true=>
  refine ye2 func52 ntmps52 fun _ _ _=>?_
  repeat'(first|refine yz ?_|refine yp b99 va ?_|refine yp b99 vb ?_|refine yp b103 (cj1 _) ?_|refine yp br3 hcl ?_|refine qP (d:=39) rfl rfl rfl rfl rfl rfl b104 (na) ?_|refine yp b104 nb ?_|refine yp b105 hc ?_|refine yx ?_|(refine yy ?_ ?_<;>intro _)|exact zD|exact zL)
 |false=>
  refine ye2 func52 ntmps52 fun _ _ _=>?_
  repeat'(first|refine yz ?_|refine yp b99 va ?_|refine yp b99 vb ?_|refine yp b103 (cj1 _) ?_|refine yp br3 hcl ?_|refine qP (d:=39) rfl rfl rfl rfl rfl rfl b104 (na) ?_|refine yp b104 nb ?_|refine yp b101 hfl ?_|refine yx ?_|(refine yy ?_ ?_<;>intro _)|exact zD|exact zL)
end Go.Proofs.YtndgolmgaenlfaaGreatDoor
