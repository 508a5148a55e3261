/- Decimal digits, in plain Lean (the part of M31 that reads them); The tokens of a canonical expression, and that they are read back: a reader of canoni. Conditions: each part's own, as it says. -/
import Derived.Test.YtndgolmgaenlfaaGreatDoorGC
import Derived.Test.YtndgolmgaenlfaaGreatDoorMB
import Derived.Test.YtndgolmgaenlfaaGreatDoorFB
import Derived.Test.YtndgolmgaenlfaaGreatDoorDA
import Derived.Test.YtndgolmgaenlfaaGreatDoorTB
set_option linter.unusedVariables false
set_option linter.unusedSimpArgs false
namespace Go.Proofs.YtndgolmgaenlfaaGreatDoor
set_option maxRecDepth 4000
open Go Go.Abs Go.Val Go.RowKit
def fd0(b:UInt8):Bool:=decide (48≤b.toNat) &&decide (b.toNat≤57)
def stop(x:List UInt8):Prop:=∀b r,x=b::r→b=44∨b=32∨b=93∨b=62
theorem fd1{k:Nat}(h:k<10):fd0 (UInt8.ofNat (48+k))=true∧(UInt8.ofNat (48+k)).toNat=48+k:=by
 have e:(UInt8.ofNat (48+k)).toNat=48+k:=by rw[UInt8.toNat_ofNat'];omega
 exact⟨by unfold fd0;rw[e];simp;omega,e⟩
theorem fd2(u:Nat):∀b∈Lib.decDigits u,fd0 b=true:=by
 induction u using Nat.strongRecOn with
 |_ u ih=>
  intro b hb;rw[Lib.decDigits]at hb
  by_cases h:u<10
  ·rw[dif_pos h]at hb;simp only[ga4]at hb;rw[hb];exact(fd1 h).1
  ·rw[dif_neg h]at hb;rcases gb2.1 hb with hb|hb
   ·exact ih (u/10) Oa b hb
   ·simp only[ga4]at hb;rw[hb];exact(fd1 Oa).1
theorem fd3(u:Nat):∃b r,Lib.decDigits u=b::r∧fd0 b=true:=by
 have h:Lib.decDigits u≠ []:=by
  rw[Lib.decDigits];split<;>simp
 cases hd:Lib.decDigits u with
 |nil=>exact absurd hd h
 |cons b r=>exact⟨b,r,rfl,fd2 u b (by rw[hd];simp)⟩
def fd4(l:List UInt8):Nat:=l.foldl (fun a b=>10*a+(b.toNat-48)) 0
theorem fd5(u:Nat):fd4 (Lib.decDigits u)=u:=by
 induction u using Nat.strongRecOn with
 |_ u ih=>
  rw[Lib.decDigits]
  by_cases h:u<10
  ·rw[dif_pos h];have:=(fd1 h).2;simp only[fd4,gd3,gf0];omega
  ·rw[dif_neg h];have h1:=ih (u/10) Oa;have:=(fd1 (show u % 10<10 by omega)).2;unfold fd4 at h1 ⊢;rw[List.foldl_append,h1];simp only[gd3,gf0];omega
inductive TK where
 |wd (s:List UInt8)
 |nm (s:List UInt8)
 |num (n:Int)
 |st (s:List UInt8)
 |sg (s:List UInt8)
def TK.eq:TK→TK→Bool
 |.wd a,.wd b=>a==b
 |.nm a,.nm b=>a==b
 |.num a,.num b=>a==b
 |.st a,.st b=>a==b
 |.sg a,.sg b=>a==b
 |_,_=>false
theorem TK.eq_iff{a b:TK}:TK.eq a b=true↔a=b:=by
 cases a<;>cases b<;>simp[TK.eq]
theorem TK.eq_self(a:TK):TK.eq a a=true:=TK.eq_iff.2 rfl
def hdK(t:TK):List TK→Bool
 |x::_=>TK.eq x t
 |[]=>false
def fd6:TK:=.wd [78,79,84]
def fd7:TK:=.wd [73,83]
def fd8:TK:=.wd [78,85,76,76]
def fd9:TK:=.wd [84,82,85,69]
def fe0:TK:=.wd [70,65,76,83,69]
def fe1:TK:=.wd [68,73,83,84,73,78,67,84]
def fe2(c:UInt8):TK:=.sg [c]
def fe3(v:V):List TK:=bif v.k==1 then [bif v.n==1 then fd9 else fe0]else bif v.k==2 then [.num v.n]else bif v.k==4 then [.st v.s.data.toList]else [fd8]
def sgK(op:Int):TK:=bif decide (op≥18)then .wd (sgT op)else .sg (sgT op)
def cmK:List (List TK)→List TK
 |[]=>[]
 |[a]=>a
 |a::r=>a++fe2 44::cmK r
def tkN(op:Int)(v:V)(nm:List UInt8)(ds:Bool)(ts os:List (List TK)):List TK:=
 bif op==1 then fe3 v else
 bif op==2 then [.nm nm]else
 bif op==3 then os.getD 0 []++ [fe2 46,.nm nm]else
 bif op==4 then os.getD 0 []++ [fe2 58,.nm nm]else
 bif op==5 then fd6::os.getD 0 []else
 bif op==6 then fe2 45::os.getD 0 []else
 bif op==21 then os.getD 0 []++ [fd7,fd8]else
 bif op==22 then fe2 91::(cmK ts++ [fe2 93])else
 bif op==23 then .nm nm::fe2 40::(cmK ts++ [fe2 41])else
 bif op==24 then(bif ts.isEmpty then [.nm nm,fe2 40,fe2 42,fe2 41]else bif ds then .nm nm::fe2 40::fe1::(ts.getD 0 []++ [fe2 41])else .nm nm::fe2 40::(ts.getD 0 []++ [fe2 41]))else
 os.getD 0 []++sgK op::os.getD 1 []
mutual
def tkE:Ex→List TK
 |.mk op v nm ds ks=>tkN op v nm.data.toList ds (tkL ks) (tkO ks)
def tkL:List Ex→List (List TK)
 |[]=>[]
 |x::r=>tkE x::tkL r
def tkO:List Ex→List (List TK)
 |[]=>[]
 |x::r=>(bif cw9 x.op then fe2 40::(tkE x++ [fe2 41])else tkE x)::tkO r
end
def opK(x:Ex):List TK:=bif cw9 x.op then fe2 40::(tkE x++ [fe2 41])else tkE x
def fe4(v:V):Prop:=v=bq3∨(∃n,(n=0∨n=1)∧v=.mk 1 n 0 ⟨#[]⟩ [])∨(∃n,0≤n∧v=.mk 2 n 0 ⟨#[]⟩ [])∨∃s,v=.mk 4 0 0 s []
inductive CX:Ex→Prop
 |cst (v:V) (h:fe4 v):CX (.mk 1 v ⟨#[]⟩ false [])
 |var (s:ByteArray):CX (.mk 2 bq3 s false [])
 |post (k:Int) (s:ByteArray) (a:Ex) (hk:k=3∨k=4) (ha:CX a):CX (.mk k bq3 s false [a])
 |un (k:Int) (a:Ex) (hk:k=5∨k=6∨k=21) (ha:CX a):CX (.mk k bq3 ⟨#[]⟩ false [a])
 |bin (k:Int) (a b:Ex) (h1:7≤k) (h2:k≤20) (ha:CX a) (hb:CX b):CX (.mk k bq3 ⟨#[]⟩ false [a,b])
 |lst (l:List Ex) (hl:∀x∈l,CX x):CX (.mk 22 bq3 ⟨#[]⟩ false l)
 |fn (s:ByteArray) (l:List Ex) (hs:cn8 s=false) (hl:∀x∈l,CX x):CX (.mk 23 bq3 s false l)
 |ag0 (s:ByteArray) (hs:cn8 s=true):CX (.mk 24 bq3 s false [])
 |ag1 (s:ByteArray) (d:Bool) (a:Ex) (hs:cn8 s=true) (ha:CX a):CX (.mk 24 bq3 s d [a])
def fe5:TK→Int
 |.sg s=>bif s==[43]then 7 else bif s==[45]then 8 else bif s==[42]then 9 else bif s==[47]then 10 else bif s==[37]then 11 else bif s==[61]then 12 else
  bif s==[60,62]then 13 else bif s==[60]then 14 else bif s==[60,61]then 15 else bif s==[62]then 16 else bif s==[62,61]then 17 else 0
 |.wd s=>bif s==[65,78,68]then 18 else bif s==[79,82]then 19 else bif s==[73,78]then 20 else 0
 |_=>0
theorem fe6{k:Int}(h1:7≤k)(h2:k≤20):fe5 (sgK k)=k:=by
 obtain⟨n,rfl⟩:=gh3 (show 0≤k by omega);have h:n<21:=Oa
 have key:∀n:Fin 21,7≤(n.val:Int)→fe5 (sgK (n.val:Int))=(n.val:Int):=Od
 exact key ⟨n,h⟩ h1
def pst:Ex→List TK→Ex × List TK
 |a,.sg c:: .nm s::r=>bif c==[46]then pst (.mk 3 bq3 (bs s) false [a]) r else bif c==[58]then pst (.mk 4 bq3 (bs s) false [a]) r else(a,.sg c:: .nm s::r)
 |a,r=>(a,r)
mutual
def dE:Nat→List TK→Option (Ex × List TK)
 |0,_=>none
 |n+1,ts=>
  bif hdK fd6 ts then(dO n ts.tail).map (fun p=>(.mk 5 bq3 ⟨#[]⟩ false [p.1],p.2))else
  bif hdK (fe2 45) ts then(dO n ts.tail).map (fun p=>(.mk 6 bq3 ⟨#[]⟩ false [p.1],p.2))else
  (dO n ts).bind fun p=>
   bif hdK fd7 p.2 then some (.mk 21 bq3 ⟨#[]⟩ false [p.1],p.2.tail.tail)else
   match p.2 with
   |[]=>some (p.1,[])
   |t::r=>bif fe5 t==0 then some (p.1,t::r)else(dO n r).map fun q=>(.mk (fe5 t) bq3 ⟨#[]⟩ false [p.1,q.1],q.2)
def dO:Nat→List TK→Option (Ex × List TK)
 |0,_=>none
 |n+1,ts=>(dA n ts).map fun p=>pst p.1 p.2
def dA:Nat→List TK→Option (Ex × List TK)
  |0,_=>none
  |n+1,ts=>match ts with
    |.num k::r=>some (.mk 1 (.mk 2 k 0 ⟨#[]⟩ []) ⟨#[]⟩ false [],r)
    |.st s::r=>some (.mk 1 (.mk 4 0 0 (bs s) []) ⟨#[]⟩ false [],r)
    |.wd w::r=>bif TK.eq (.wd w) fd9 then some (.mk 1 (.mk 1 1 0 ⟨#[]⟩ []) ⟨#[]⟩ false [],r)else bif TK.eq (.wd w) fe0 then some (.mk 1 (.mk 1 0 0 ⟨#[]⟩ []) ⟨#[]⟩ false [],r)else some (.mk 1 bq3 ⟨#[]⟩ false [],r)
    |.sg c::r=>bif c==[40]then(dE n r).map (fun p=>(p.1,p.2.tail))else(dL n [93] r).map fun p=>(.mk 22 bq3 ⟨#[]⟩ false p.1,p.2)
    |.nm s::r=>bif hdK (fe2 40) r then
        (bif cn8 (bs s)then
          (bif hdK (fe2 42) r.tail then some (.mk 24 bq3 (bs s) false [],r.tail.tail.tail)else
           bif hdK fe1 r.tail then(dE n r.tail.tail).map (fun p=>(.mk 24 bq3 (bs s) true [p.1],p.2.tail))else
           (dE n r.tail).map fun p=>(.mk 24 bq3 (bs s) false [p.1],p.2.tail))
         else(dL n [41] r.tail).map fun p=>(.mk 23 bq3 (bs s) false p.1,p.2))
      else some (.mk 2 bq3 (bs s) false [],r)
    |[]=>none
def dL:Nat→List UInt8→List TK→Option (List Ex × List TK)
 |0,_,_=>none
 |n+1,c,ts=>bif hdK (.sg c) ts then some ([],ts.tail)else dM n c ts
def dM:Nat→List UInt8→List TK→Option (List Ex × List TK)
 |0,_,_=>none
 |n+1,c,ts=>(dE n ts).bind fun p=>bif hdK (fe2 44) p.2 then(dM n c p.2.tail).map (fun q=>(p.1::q.1,q.2))else some ([p.1],p.2.tail)
end
def stP(r:List TK):Prop:=hdK (fe2 46) r=false∧hdK (fe2 58) r=false∧hdK (fe2 40) r=false
def stE(r:List TK):Prop:=stP r∧hdK fd7 r=false∧∀t q,r=t::q→fe5 t=0
theorem fe7{a:Ex}{r:List TK}(h:stP r):pst a r=(a,r):=by
 obtain⟨h1,h2,-⟩:=h
 match r with
 |[]=>rfl
 |[t]=>cases t<;>rfl
 |t::u::q=>
  cases t with
  |sg c=>
   cases u with
   |nm s=>
    rw[pst];have e1:(c==[46])=false:=by simpa[hdK,fe2,TK.eq]using h1
    have e2:(c==[58])=false:=by simpa[hdK,fe2,TK.eq]using h2
    rw[e1,e2];rfl
   |_=>rfl
  |_=>rfl
theorem fe8(a:Ex)(s:ByteArray)(r:List TK):pst a (fe2 46:: .nm s.data.toList::r)=pst (.mk 3 bq3 s false [a]) r:=by
 rw[fe2,pst];show pst (.mk 3 bq3 (bs (bl s)) false [a]) r=_;rw[em0]
theorem fe9(a:Ex)(s:ByteArray)(r:List TK):pst a (fe2 58:: .nm s.data.toList::r)=pst (.mk 4 bq3 s false [a]) r:=by
 rw[fe2,pst];show pst (.mk 4 bq3 (bs (bl s)) false [a]) r=_;rw[em0]
theorem ff0(e:Ex):1≤nd e:=by cases e;rw[nd];omega
def fuE(e:Ex):Nat:=8*nd e+8
theorem st41(r:List TK):stE (fe2 41::r):=⟨⟨rfl,rfl,rfl⟩,rfl,fun t q h=>by cases h;rfl⟩
theorem st93(r:List TK):stE (fe2 93::r):=⟨⟨rfl,rfl,rfl⟩,rfl,fun t q h=>by cases h;rfl⟩
theorem st44(r:List TK):stE (fe2 44::r):=⟨⟨rfl,rfl,rfl⟩,rfl,fun t q h=>by cases h;rfl⟩
theorem stIS(r:List TK):stP (fd7::r):=⟨rfl,rfl,rfl⟩
theorem stOP{k:Int}(h1:7≤k)(h2:k≤20)(r:List TK):stP (sgK k::r)∧hdK fd7 (sgK k::r)=false:=by
 obtain⟨n,rfl⟩:=gh3 (show 0≤k by omega);have h:n<21:=Oa
 have key:∀n:Fin 21,7≤(n.val:Int)→(TK.eq (sgK (n.val:Int)) (fe2 46)=false∧TK.eq (sgK (n.val:Int)) (fe2 58)=false∧TK.eq (sgK (n.val:Int)) (fe2 40)=false)∧TK.eq (sgK (n.val:Int)) fd7=false:=Od
 exact key ⟨n,h⟩ h1
def hdO(ts:List TK):Prop:=hdK fd6 ts=false∧hdK (fe2 45) ts=false∧ts≠ []
structure RdK(x:Ex):Prop where
 a:cw9 x.op=false→∀n r,fuE x≤n+1→hdK (fe2 40) r=false→dO n (tkE x++r)=some (pst x r)
 hd:cw9 x.op=false→∀r,hdO (tkE x++r)
 e:∀n r,fuE x≤n→stE r→dE n (tkE x++r)=some (x,r)
 ne:∀r,hdK (fe2 41) (tkE x++r)=false∧hdK (fe2 93) (tkE x++r)=false∧hdK (fe2 42) (tkE x++r)=false∧hdK fe1 (tkE x++r)=false
theorem st40{r:List TK}(h:stE r):hdK (fe2 40) r=false:=h.1.2.2
theorem ff1{e:Ex}{n:Nat}{ts r:List TK}(h:dO n ts=some (pst e r))(hh:hdO ts)(hs:stE r):dE (n+1) ts=some (e,r):=by
 rw[dE,hh.1,hh.2.1,h,fe7 hs.1];show(bif hdK fd7 r then _ else _)=_;rw[hs.2.1]
 match r,hs with
 |[],_=>rfl
 |t::q,hs=>
  have:=hs.2.2 t q rfl;show(bif fe5 t==0 then _ else _)=_;rw[this];rfl
theorem ff2{x:Ex}(h:RdK x){n:Nat}{r:List TK}(hn:fuE x+2≤n)(hr:hdK (fe2 40) r=false):dO n (opK x++r)=some (pst x r):=by
 unfold opK
 cases ho:cw9 x.op with
 |false=>exact h.a ho n r Oa hr
 |true=>
  obtain⟨m,rfl⟩:∃m,n=m+2:=⟨n-2,by omega⟩;have he:=h.e m (fe2 41::r) Oa (st41 r);rw[cond_true,gb4,fz5];show(dA (m+1) (fe2 40::(tkE x++fe2 41::r))).map _=_;rw[fe2,dA];show((dE m (tkE x++fe2 41::r)).map _).map _=_;rw[he];rfl
theorem ff3{x:Ex}(h:RdK x)(r:List TK):hdO (opK x++r):=by
 unfold opK
 cases ho:cw9 x.op with
 |false=>exact h.hd ho r
 |true=>exact⟨rfl,rfl,by simp⟩
theorem ff4{x:Ex}(h:RdK x)(r:List TK):hdK (fe2 41) (opK x++r)=false∧hdK (fe2 93) (opK x++r)=false∧hdK (fe2 42) (opK x++r)=false∧hdK fe1 (opK x++r)=false:=by
 unfold opK
 cases ho:cw9 x.op with
 |false=>exact h.ne r
 |true=>exact⟨rfl,rfl,rfl,rfl⟩
theorem ff5(c:List UInt8)(hc:c=[93]∨c=[41]):∀(l:List Ex),l≠ []→(∀x∈l,RdK x)→∀n r,8*ndL l+9≤n→dM n c (cmK (tkL l)++ .sg c::r)=some (l,r)
 |[],h,_,_,_,_=>absurd rfl h
 |[a],_,hx,n,r,hn=>by
  obtain⟨m,rfl⟩:∃m,n=m+1:=⟨n-1,by omega⟩
  have hs:stE (.sg c::r):=by
   rcases hc with rfl|rfl
   ·exact st93 r
   ·exact st41 r
  have hn2:8*nd a+8≤m:=by rw[ndL]at hn;omega
  have he:=(hx a Oc).e m (.sg c::r) hn2 hs;show dM (m+1) c (tkE a++ .sg c::r)=_;rw[dM,he];rcases hc with rfl|rfl<;>rfl
 |a::b::q,_,hx,n,r,hn=>by
  obtain⟨m,rfl⟩:∃m,n=m+1:=⟨n-1,by omega⟩
  have hn2:8*nd a+8≤m∧8*ndL (b::q)+9≤m:=by
   rw[ndL]at hn;have:=ff0 a;have:=ff0 b;have h2:ndL (b::q)=nd b+ndL q:=by rw[ndL]
   omega
  have he:=(hx a Oc).e m (fe2 44::(cmK (tkL (b::q))++ .sg c::r)) hn2.1 (st44 _);have ih:=ff5 c hc (b::q) Oc (fun x h=>hx x (gc2 _ h)) m r hn2.2
  have e1:cmK (tkL (a::b::q))++ .sg c::r=tkE a++fe2 44::(cmK (tkL (b::q))++ .sg c::r):=by
   show(tkE a++fe2 44::cmK (tkL (b::q)))++ .sg c::r=_;rw[fz5];rfl
  rw[e1,dM,he];show(dM m c (cmK (tkL (b::q))++ .sg c::r)).map (fun q=>(a::q.1,q.2))=_;rw[ih];rfl
theorem ff6(c:List UInt8)(hc:c=[93]∨c=[41])(l:List Ex)(hx:∀x∈l,RdK x)(n:Nat)(r:List TK)(hn:8*ndL l+10≤n):dL n c (cmK (tkL l)++ .sg c::r)=some (l,r):=by
 obtain⟨m,rfl⟩:∃m,n=m+1:=⟨n-1,by omega⟩;rw[dL]
 cases l with
 |nil=>
  show(bif hdK (.sg c) (.sg c::r)then _ else _)=_;rw[show hdK (.sg c) (.sg c::r)=true from TK.eq_self (.sg c)];rfl
 |cons a q=>
  have hh:hdK (.sg c) (cmK (tkL (a::q))++ .sg c::r)=false:=by
   have key:∃r',cmK (tkL (a::q))++ .sg c::r=tkE a++r':=by
    cases q with
    |nil=>exact⟨_,rfl⟩
    |cons b q=>exact⟨fe2 44::(cmK (tkL (b::q))++ .sg c::r),by
      show(tkE a++fe2 44::cmK (tkL (b::q)))++ .sg c::r=_;rw[fz5];rfl⟩
   obtain⟨r',e⟩:=key;have:=(hx a Oc).ne r';rw[e];rcases hc with rfl|rfl
   ·exact this.2.1
   ·exact this.1
  rw[hh,cond_false];exact ff5 c hc (a::q) Oc hx m r Oa
theorem ff7{op:Int}{v:V}{nm:ByteArray}{ds:Bool}{a:Ex}{ks:List Ex}(h:a∈ks):fuE a+8≤fuE (.mk op v nm ds ks):=by
 have:=cp1 h;unfold fuE;rw[nd];omega
theorem ff8{x:Ex}(h:CX x):RdK x:=by
 induction h with
 |cst v h=>
  have ha:∀n r,2≤n→dO n (tkE (.mk 1 v ⟨#[]⟩ false [])++r)=some (pst (.mk 1 v ⟨#[]⟩ false []) r):=fun n r hn=>by
   obtain⟨m,rfl⟩:∃m,n=m+2:=⟨n-2,by omega⟩;rcases h with rfl|⟨k,hk|hk,rfl⟩|⟨k,hk,rfl⟩|⟨s,rfl⟩
   ·rfl
   ·subst hk;rfl
   ·subst hk;rfl
   ·rfl
   ·show some (pst (.mk 1 (.mk 4 0 0 (bs (bl s)) []) ⟨#[]⟩ false []) r)=_;rw[em0]
  have hd:∀r,hdO (tkE (.mk 1 v ⟨#[]⟩ false [])++r):=fun r=>by
   rcases h with rfl|⟨k,hk|hk,rfl⟩|⟨k,hk,rfl⟩|⟨s,rfl⟩
   ·exact⟨rfl,rfl,by simp[tkE,tkN,fe3,bq3,V.k]⟩
   ·subst hk;exact⟨rfl,rfl,by simp[tkE,tkN,fe3,V.k]⟩
   ·subst hk;exact⟨rfl,rfl,by simp[tkE,tkN,fe3,V.k]⟩
   ·exact⟨rfl,rfl,by simp[tkE,tkN,fe3,V.k]⟩
   ·exact⟨rfl,rfl,by simp[tkE,tkN,fe3,V.k]⟩
  refine⟨fun _ n r hn _=>ha n r (by unfold fuE at hn;omega),fun _ r=>hd r,fun n r hn hs=>?_,fun r=>?_⟩
  ·obtain⟨m,rfl⟩:∃m,n=m+1:=⟨n-1,by unfold fuE at hn;omega⟩;exact ff1 (ha m r (by unfold fuE at hn;omega)) (hd r) hs
  ·rcases h with rfl|⟨k,hk|hk,rfl⟩|⟨k,hk,rfl⟩|⟨s,rfl⟩
   ·exact⟨rfl,rfl,rfl,rfl⟩
   ·subst hk;exact⟨rfl,rfl,rfl,rfl⟩
   ·subst hk;exact⟨rfl,rfl,rfl,rfl⟩
   ·exact⟨rfl,rfl,rfl,rfl⟩
   ·exact⟨rfl,rfl,rfl,rfl⟩
 |var s=>
  have ha:∀n r,2≤n→hdK (fe2 40) r=false→dO n (tkE (.mk 2 bq3 s false [])++r)=some (pst (.mk 2 bq3 s false []) r):=fun n r hn hr=>by
   obtain⟨m,rfl⟩:∃m,n=m+2:=⟨n-2,by omega⟩;show(dA (m+1) (.nm (bl s)::r)).map _=_;rw[dA,hr,cond_false,em0];rfl
  have hd:∀r,hdO (tkE (.mk 2 bq3 s false [])++r):=fun r=>⟨rfl,rfl,by simp[tkE,tkN]⟩
  refine⟨fun _ n r hn hr=>ha n r (by unfold fuE at hn;omega) hr,fun _ r=>hd r,fun n r hn hs=>?_,fun r=>⟨rfl,rfl,rfl,rfl⟩⟩;obtain⟨m,rfl⟩:∃m,n=m+1:=⟨n-1,by unfold fuE at hn;omega⟩;exact ff1 (ha m r (by unfold fuE at hn;omega) (st40 hs)) (hd r) hs
 |post k s a hk _ ih=>
  have hfu:fuE a+8≤fuE (.mk k bq3 s false [a]):=ff7 Oc
  have ha:∀n r,fuE (.mk k bq3 s false [a])≤n+1→dO n (tkE (.mk k bq3 s false [a])++r)=some (pst (.mk k bq3 s false [a]) r):=fun n r hn=>by
   rcases hk with rfl|rfl
   ·have:=ff2 ih (n:=n) (r:=fe2 46:: .nm s.data.toList::r) Oa rfl;rw[fe8]at this;rw[←this];show dO n ((opK a++ [fe2 46,.nm s.data.toList])++r)=_;rw[fz5];rfl
   ·have:=ff2 ih (n:=n) (r:=fe2 58:: .nm s.data.toList::r) Oa rfl;rw[fe9]at this;rw[←this];show dO n ((opK a++ [fe2 58,.nm s.data.toList])++r)=_;rw[fz5];rfl
  have e1:∀r,∃r',tkE (.mk k bq3 s false [a])++r=opK a++r':=fun r=>by
   rcases hk with rfl|rfl
   ·exact⟨fe2 46:: .nm s.data.toList::r,by show(opK a++ [fe2 46,.nm s.data.toList])++r=_;rw[fz5];rfl⟩
   ·exact⟨fe2 58:: .nm s.data.toList::r,by show(opK a++ [fe2 58,.nm s.data.toList])++r=_;rw[fz5];rfl⟩
  have hd:∀r,hdO (tkE (.mk k bq3 s false [a])++r):=fun r=>by
   obtain⟨r',e⟩:=e1 r;rw[e];exact ff3 ih r'
  refine⟨fun _ n r hn _=>ha n r hn,fun _ r=>hd r,fun n r hn hs=>?_,fun r=>?_⟩
  ·obtain⟨m,rfl⟩:∃m,n=m+1:=⟨n-1,by unfold fuE at hn;omega⟩;exact ff1 (ha m r Oa) (hd r) hs
  ·obtain⟨r',e⟩:=e1 r;rw[e];exact ff4 ih r'
 |un k a hk _ ih=>
  have hfu:fuE a+8≤fuE (.mk k bq3 ⟨#[]⟩ false [a]):=ff7 Oc;have hop:cw9 k=true:=by rcases hk with rfl|rfl|rfl<;>rfl
  refine⟨fun h=>absurd (hop.symm.trans h) Od,fun h=>absurd (hop.symm.trans h) Od,fun n r hn hs=>?_,fun r=>?_⟩
  ·obtain⟨m,rfl⟩:∃m,n=m+1:=⟨n-1,by unfold fuE at hn;omega⟩;have ho:=ff2 ih (n:=m) (r:=r) Oa (st40 hs);rw[fe7 hs.1]at ho;rcases hk with rfl|rfl|rfl
   ·show dE (m+1) (fd6::(opK a++r))=_;rw[dE];show(dO m (opK a++r)).map _=_;rw[ho];rfl
   ·show dE (m+1) (fe2 45::(opK a++r))=_;rw[dE];show(dO m (opK a++r)).map _=_;rw[ho];rfl
   ·have ho:=ff2 ih (n:=m) (r:=fd7::fd8::r) Oa rfl;rw[fe7 (stIS _)]at ho;have hh:=ff3 ih (fd7::fd8::r);have e1:tkE (.mk 21 bq3 ⟨#[]⟩ false [a])++r=opK a++fd7::fd8::r:=by show(opK a++ [fd7,fd8])++r=_;rw[fz5];rfl
    rw[e1,dE,hh.1,hh.2.1,ho];rfl
  ·rcases hk with rfl|rfl|rfl
   ·exact⟨rfl,rfl,rfl,rfl⟩
   ·exact⟨rfl,rfl,rfl,rfl⟩
   ·have e1:tkE (.mk 21 bq3 ⟨#[]⟩ false [a])++r=opK a++fd7::fd8::r:=by show(opK a++ [fd7,fd8])++r=_;rw[fz5];rfl
    rw[e1];exact ff4 ih _
 |bin k a b h1 h2 _ _ iha ihb=>
  have hfa:fuE a+8≤fuE (.mk k bq3 ⟨#[]⟩ false [a,b]):=ff7 Oc;have hfb:fuE b+8≤fuE (.mk k bq3 ⟨#[]⟩ false [a,b]):=ff7 Oc;have hop:cw9 k=true:=by unfold cw9;simp;omega
  have e1:∀r,tkE (.mk k bq3 ⟨#[]⟩ false [a,b])++r=opK a++sgK k::(opK b++r):=fun r=>by
   have:tkE (.mk k bq3 ⟨#[]⟩ false [a,b])=opK a++sgK k::opK b:=by
    rw[tkE,tkN];have q:∀j:Int,(j<7∨20<j)→(k==j)=false:=fun j hj=>by rw[beq_eq_false_iff_ne];omega
    rw[q 1 Oa,q 2 Oa,q 3 Oa,q 4 Oa,q 5 Oa,q 6 Oa,q 21 Oa,q 22 Oa,q 23 Oa,q 24 Oa];rfl
   rw[this,fz5];rfl
  refine⟨fun h=>absurd (hop.symm.trans h) Od,fun h=>absurd (hop.symm.trans h) Od,fun n r hn hs=>?_,fun r=>?_⟩
  ·obtain⟨m,rfl⟩:∃m,n=m+1:=⟨n-1,by unfold fuE at hn;omega⟩;obtain⟨g1,g2⟩:=stOP h1 h2 (opK b++r);have ho:=ff2 iha (n:=m) (r:=sgK k::(opK b++r)) Oa g1.2.2;rw[fe7 g1]at ho;have hb:=ff2 ihb (n:=m) (r:=r) Oa (st40 hs);rw[fe7 hs.1]at hb;have hh:=ff3 iha (sgK k::(opK b++r));have hk:=fe6 h1 h2;have hk0:(k==0)=false:=by rw[beq_eq_false_iff_ne];omega
   rw[e1,dE,hh.1,hh.2.1,ho];show(bif hdK fd7 (sgK k::(opK b++r))then _ else bif fe5 (sgK k)==0 then _ else(dO m (opK b++r)).map _)=_;rw[g2,hk,hk0,hb];rfl
  ·rw[e1];exact ff4 iha _
 |lst l _ ih=>
  have hn0:fuE (.mk 22 bq3 ⟨#[]⟩ false l)=8*ndL l+16:=by unfold fuE;rw[nd];omega
  have ha:∀n r,fuE (.mk 22 bq3 ⟨#[]⟩ false l)≤n+1→dO n (tkE (.mk 22 bq3 ⟨#[]⟩ false l)++r)=some (pst (.mk 22 bq3 ⟨#[]⟩ false l) r):=fun n r hn=>by
   obtain⟨m,rfl⟩:∃m,n=m+2:=⟨n-2,by omega⟩;have hl:=ff6 [93] (.inl rfl) l ih m r Oa
   have e1:tkE (.mk 22 bq3 ⟨#[]⟩ false l)++r=fe2 91::(cmK (tkL l)++fe2 93::r):=by
    show fe2 91::((cmK (tkL l)++ [fe2 93])++r)=_;rw[fz5];rfl
   rw[e1];show(dA (m+1) (.sg [91]::(cmK (tkL l)++ .sg [93]::r))).map _=_;rw[dA];show((dL m [93] (cmK (tkL l)++ .sg [93]::r)).map _).map _=_;rw[hl];rfl
  have hd:∀r,hdO (tkE (.mk 22 bq3 ⟨#[]⟩ false l)++r):=fun r=>⟨rfl,rfl,by simp[tkE,tkN]⟩
  refine⟨fun _ n r hn _=>ha n r hn,fun _ r=>hd r,fun n r hn hs=>?_,fun r=>⟨rfl,rfl,rfl,rfl⟩⟩;obtain⟨m,rfl⟩:∃m,n=m+1:=⟨n-1,by omega⟩;exact ff1 (ha m r Oa) (hd r) hs
 |fn s l hs0 _ ih=>
  have hn0:fuE (.mk 23 bq3 s false l)=8*ndL l+16:=by unfold fuE;rw[nd];omega
  have ha:∀n r,fuE (.mk 23 bq3 s false l)≤n+1→dO n (tkE (.mk 23 bq3 s false l)++r)=some (pst (.mk 23 bq3 s false l) r):=fun n r hn=>by
   obtain⟨m,rfl⟩:∃m,n=m+2:=⟨n-2,by omega⟩;have hl:=ff6 [41] (.inr rfl) l ih m r Oa
   have e1:tkE (.mk 23 bq3 s false l)++r=.nm (bl s)::fe2 40::(cmK (tkL l)++fe2 41::r):=by
    show TK.nm (bl s)::fe2 40::((cmK (tkL l)++ [fe2 41])++r)=_;rw[fz5];rfl
   rw[e1];show(dA (m+1) (.nm (bl s)::fe2 40::(cmK (tkL l)++ .sg [41]::r))).map _=_;rw[dA,em0,hs0];show((dL m [41] (cmK (tkL l)++ .sg [41]::r)).map _).map _=_;rw[hl];rfl
  have hd:∀r,hdO (tkE (.mk 23 bq3 s false l)++r):=fun r=>⟨rfl,rfl,by simp[tkE,tkN]⟩
  refine⟨fun _ n r hn _=>ha n r hn,fun _ r=>hd r,fun n r hn hs=>?_,fun r=>⟨rfl,rfl,rfl,rfl⟩⟩;obtain⟨m,rfl⟩:∃m,n=m+1:=⟨n-1,by omega⟩;exact ff1 (ha m r Oa) (hd r) hs
 |ag0 s hs0=>
  have ha:∀n r,2≤n→dO n (tkE (.mk 24 bq3 s false [])++r)=some (pst (.mk 24 bq3 s false []) r):=fun n r hn=>by
   obtain⟨m,rfl⟩:∃m,n=m+2:=⟨n-2,by omega⟩;show(dA (m+1) (.nm (bl s)::fe2 40::fe2 42::fe2 41::r)).map _=_;rw[dA,em0,hs0];rfl
  have hd:∀r,hdO (tkE (.mk 24 bq3 s false [])++r):=fun r=>⟨rfl,rfl,by simp[tkE,tkN,tkL]⟩
  refine⟨fun _ n r hn _=>ha n r (by unfold fuE at hn;omega),fun _ r=>hd r,fun n r hn hs=>?_,fun r=>⟨rfl,rfl,rfl,rfl⟩⟩;obtain⟨m,rfl⟩:∃m,n=m+1:=⟨n-1,by unfold fuE at hn;omega⟩;exact ff1 (ha m r (by unfold fuE at hn;omega)) (hd r) hs
 |ag1 s d a hs0 _ ih=>
  have hfu:fuE a+8≤fuE (.mk 24 bq3 s d [a]):=ff7 Oc
  have ha:∀n r,fuE (.mk 24 bq3 s d [a])≤n+1→dO n (tkE (.mk 24 bq3 s d [a])++r)=some (pst (.mk 24 bq3 s d [a]) r):=fun n r hn=>by
   obtain⟨m,rfl⟩:∃m,n=m+2:=⟨n-2,by omega⟩;have he:=ih.e m (fe2 41::r) Oa (st41 r)
   cases d with
   |true=>
    have e1:tkE (.mk 24 bq3 s true [a])++r=.nm (bl s)::fe2 40::fe1::(tkE a++fe2 41::r):=by
     show TK.nm (bl s)::fe2 40::fe1::((tkE a++ [fe2 41])++r)=_;rw[fz5];rfl
    rw[e1];show(dA (m+1) (.nm (bl s)::fe2 40::fe1::(tkE a++fe2 41::r))).map _=_;rw[dA,em0,hs0];show((dE m (tkE a++fe2 41::r)).map _).map _=_;rw[he];rfl
   |false=>
    have e1:tkE (.mk 24 bq3 s false [a])++r=.nm (bl s)::fe2 40::(tkE a++fe2 41::r):=by
     show TK.nm (bl s)::fe2 40::((tkE a++ [fe2 41])++r)=_;rw[fz5];rfl
    have hne:=ih.ne (fe2 41::r);rw[e1];show(dA (m+1) (.nm (bl s)::fe2 40::(tkE a++fe2 41::r))).map _=_;rw[dA,em0,hs0];show(bif hdK (fe2 42) (tkE a++fe2 41::r)then _ else bif hdK fe1 (tkE a++fe2 41::r)then _ else(dE m (tkE a++fe2 41::r)).map _:Option _).map _=_;rw[hne.2.2.1,hne.2.2.2,he];rfl
  have hd:∀r,hdO (tkE (.mk 24 bq3 s d [a])++r):=fun r=>by cases d<;>exact⟨rfl,rfl,by simp[tkE,tkN,tkL]⟩
  refine⟨fun _ n r hn _=>ha n r hn,fun _ r=>hd r,fun n r hn hs=>?_,fun r=>by cases d<;>exact⟨rfl,rfl,rfl,rfl⟩⟩;obtain⟨m,rfl⟩:∃m,n=m+1:=⟨n-1,by unfold fuE at hn;omega⟩;exact ff1 (ha m r Oa) (hd r) hs
theorem ff9{x y:Ex}(hx:CX x)(hy:CX y){r q:List TK}(hr:stE r)(hq:stE q)(h:tkE x++r=tkE y++q):x=y∧r=q:=by
 have e1:=(ff8 hx).e (fuE x+fuE y) r Oa hr;have e2:=(ff8 hy).e (fuE x+fuE y) q Oa hq;rw[h,e2]at e1
 cases e1
 exact⟨rfl,rfl⟩
end Go.Proofs.YtndgolmgaenlfaaGreatDoor
namespace Go.Proofs.YtndgolmgaenlfaaGreatDoor
set_option maxRecDepth 4000
open Go Go.Abs Go.Val Go.RowKit
def fg0(c:UInt8):Bool:=ca1 (c.toNat:Int)
def wC(c:UInt8):Bool:=wcF (c.toNat:Int)
def fg1(c:UInt8):Bool:=decide (48≤c.toNat) &&decide (c.toNat≤57)
def fg2:List UInt8→List UInt8 × List UInt8
 |[]=>([],[])
 |[c]=>bif c==39 then([],[])else([c],[])
 |c::d::q=>bif c==39 then(bif d==39 then(39::(fg2 q).1,(fg2 q).2)else([],d::q))else(c::(fg2 (d::q)).1,(fg2 (d::q)).2)
theorem fg3(c:UInt8):fg2 [c]=bif c==39 then([],[])else([c],[]):=by rw[fg2]
theorem fg4(c d:UInt8)(q:List UInt8):fg2 (c::d::q)=bif c==39 then(bif d==39 then(39::(fg2 q).1,(fg2 q).2)else([],d::q))else(c::(fg2 (d::q)).1,(fg2 (d::q)).2):=by rw[fg2]
theorem fg5:fg2 []=([],[]):=by rw[fg2]
theorem fg6{c:UInt8}(h:(c==39)=false)(r:List UInt8):fg2 (c::r)=(c::(fg2 r).1,(fg2 r).2):=by
 match r with
 |[]=>rw[fg3,fg5,h];rfl
 |d::q=>rw[fg4,h];rfl
def wdK(w:List UInt8):TK:=bif cr0 (bs w)then .wd w else .nm w
def two(c d:UInt8):Bool:=(c==60&&(d==62||d==61))||((c==62&&d==61)||(c==46&&d==46))
def lx:Nat→List UInt8→List TK
 |0,_=>[]
 |_+1,[]=>[]
 |n+1,c::r=>
  bif c==32 then lx n r else
  bif fg0 c then wdK (c::r.takeWhile wC)::lx n (r.dropWhile wC)else
  bif fg1 c then .num (fd4 (c::r.takeWhile fg1):Nat)::lx n (r.dropWhile fg1)else
  bif c==39 then .st (fg2 r).1::lx n (fg2 r).2 else
  match r with
  |d::q=>bif two c d then .sg [c,d]::lx n q else .sg [c]::lx n (d::q)
  |[]=>[.sg [c]]
theorem fg7(n:Nat)(c:UInt8)(r:List UInt8):lx (n+1) (c::r)=
  bif c==32 then lx n r else
  bif fg0 c then wdK (c::r.takeWhile wC)::lx n (r.dropWhile wC)else
  bif fg1 c then .num (fd4 (c::r.takeWhile fg1):Nat)::lx n (r.dropWhile fg1)else
  bif c==39 then .st (fg2 r).1::lx n (fg2 r).2 else
  match r with
  |d::q=>bif two c d then .sg [c,d]::lx n q else .sg [c]::lx n (d::q)
  |[]=>[.sg [c]]:=by
 match r with
 |[]=>rw[lx]
 |d::q=>rw[lx]
theorem fg8(p:UInt8→Bool):∀l:List UInt8,(l.dropWhile p).length≤l.length
 |[]=>fz6 _
 |c::r=>by
  rw[List.dropWhile_cons];split
  ·exact gb8 (fg8 p r) (Nat.le_succ _)
  ·exact fz6 _
theorem fg9:∀(n:Nat) (l:List UInt8),l.length≤n→(fg2 l).2.length≤l.length
 |_,[],_=>by rw[fg5];exact fz6 _
 |0,c::r,h=>by simp at h
 |n+1,c::r,h=>by
  have hr:r.length≤n:=by simpa using h
  cases hc:c==39 with
  |false=>rw[fg6 hc];exact gb8 (fg9 n r hr) (Nat.le_succ _)
  |true=>
   match r,hr with
   |[],_=>rw[fg3,hc];exact ga8 _
   |d::q,hr=>
    rw[fg4,hc,cond_true]
    cases hd:d==39 with
    |false=>rw[cond_false];simp
    |true=>
     have hq:q.length≤n:=by simp only[fy7]at hr;omega
     have:=fg9 n q hq;rw[cond_true];simp only[fy7];omega
theorem fh0:∀(n m:Nat) (l:List UInt8),l.length≤n→l.length≤m→lx n l=lx m l
 |0,0,_,_,_=>rfl
 |0,m+1,[],_,_=>rfl
 |0,m+1,c::r,h,_=>by simp at h
 |n+1,0,[],_,_=>rfl
 |n+1,0,c::r,_,h=>by simp at h
 |n+1,m+1,[],_,_=>rfl
 |n+1,m+1,c::r,h1,h2=>by
  have h1:r.length≤n:=by simpa using h1
  have h2:r.length≤m:=by simpa using h2
  have e1:=fh0 n m r h1 h2;have e2:=fh0 n m (r.dropWhile wC) (gb8 (fg8 _ _) h1) (gb8 (fg8 _ _) h2);have e3:=fh0 n m (r.dropWhile fg1) (gb8 (fg8 _ _) h1) (gb8 (fg8 _ _) h2);have e4:=fh0 n m (fg2 r).2 (gb8 (fg9 _ _ (fz6 _)) h1) (gb8 (fg9 _ _ (fz6 _)) h2)
  match r,h1,h2,e1,e2,e3,e4 with
  |[],_,_,e1,e2,e3,e4=>rw[fg7,fg7,e1,e2,e3,e4]
  |d::q,h1,h2,e1,e2,e3,e4=>
   have e5:=fh0 n m q (by simp only[fy7]at h1;omega) (by simp only[fy7]at h2;omega);rw[fg7,fg7,e1,e2,e3,e4];simp only[e1,e5]
def lex(l:List UInt8):List TK:=lx l.length l
theorem fh1{n:Nat}{l:List UInt8}(h:l.length≤n):lx n l=lex l:=fh0 _ _ _ h (fz6 _)
theorem fh2(c:UInt8)(r:List UInt8):lex (c::r)=
  bif c==32 then lex r else
  bif fg0 c then wdK (c::r.takeWhile wC)::lex (r.dropWhile wC)else
  bif fg1 c then .num (fd4 (c::r.takeWhile fg1):Nat)::lex (r.dropWhile fg1)else
  bif c==39 then .st (fg2 r).1::lex (fg2 r).2 else
  match r with
  |d::q=>bif two c d then .sg [c,d]::lex q else .sg [c]::lex (d::q)
  |[]=>[.sg [c]]:=by
 show lx (r.length+1) (c::r)=_;have e1:=fh1 (fz6 r.length);have e2:=fh1 (fg8 wC r);have e3:=fh1 (fg8 fg1 r);have e4:=fh1 (fg9 _ r (fz6 _));rw[fg7,e1,e2,e3,e4]
 match r,e1 with
 |[],_=>rfl
 |d::q,e1=>
  have e5:lx (d::q).length q=lex q:=fh1 Oc;simp only[e1,e5]
theorem fh3(r:List UInt8):lex (32::r)=lex r:=by rw[fh2];rfl
theorem fh4{p:UInt8→Bool}:∀{t r:List UInt8},(∀c∈t,p c=true)→(∀c q,r=c::q→p c=false)→(t++r).takeWhile p=t∧(t++r).dropWhile p=r
 |[],[],_,_=>⟨rfl,rfl⟩
 |[],c::q,_,h=>by
  have:=h c q rfl;exact⟨by rw[gb7,List.takeWhile_cons,this];rfl,by rw[gb7,List.dropWhile_cons,this];rfl⟩
 |a::t,r,h1,h2=>by
  have ha:=h1 a Oc;have ih:=fh4 (t:=t) (r:=r) (fun c hc=>h1 c (by simp[hc])) h2;exact⟨by rw[gb4,List.takeWhile_cons,ha,if_pos rfl,ih.1],by rw[gb4,List.dropWhile_cons,ha,if_pos rfl,ih.2]⟩
def dlm(r:List UInt8):Prop:=∀c q,r=c::q→wC c=false∧c≠39
theorem fh5:∀c:Fin 256,(fg0 (UInt8.ofFin c)=true→(UInt8.ofFin c==32)=false)∧(fg1 (UInt8.ofFin c)=true→(UInt8.ofFin c==32)=false∧fg0 (UInt8.ofFin c)=false∧wC (UInt8.ofFin c)=true):=Oe
theorem fh6(c:UInt8):UInt8.ofFin c.toFin=c:=by cases c;rfl
theorem fh7(c:UInt8):(fg0 c=true→(c==32)=false)∧(fg1 c=true→(c==32)=false∧fg0 c=false∧wC c=true):=by
 have:=fh5 c.toFin;rw[fh6]at this;exact this
theorem fh8{c:UInt8}{t r:List UInt8}(hc:fg0 c=true)(ht:∀x∈t,wC x=true)(hr:dlm r):lex (c::t++r)=wdK (c::t)::lex r:=by
 have h:=fh4 (p:=wC) ht (r:=r) fun x q e=>(hr x q e).1
 rw[gb4,fh2,(fh7 c).1 hc,hc,h.1,h.2];rfl
theorem fh9{s r:List UInt8}(hr:dlm r):lex (39::(dbl s++39::r))=.st s::lex r:=by
 have key:∀s:List UInt8,fg2 (dbl s++39::r)=(s,r):=by
  intro s
  induction s with
  |nil=>
   show fg2 (39::r)=_
   match r,hr with
   |[],_=>rw[fg3];rfl
   |d::q,hr=>
    have:(d==39)=false:=by simpa using(hr d q rfl).2
    rw[fg4,this];rfl
  |cons b q ih=>
   have e:dbl (b::q)=(bif b==39 then [39,39]else [b])++dbl q:=rfl;rw[e]
   cases hb:b==39 with
   |true=>
    obtain rfl:b=39:=by simpa using hb
    show fg2 (39::39::(dbl q++39::r))=_;rw[fg4,ih];rfl
   |false=>
    show fg2 (b::(dbl q++39::r))=_;rw[fg6 hb,ih]
 rw[fh2,key];rfl
theorem fi0{c:UInt8}{r:List UInt8}(h1:(c==32)=false)(h2:fg0 c=false)(h3:fg1 c=false)(h4:(c==39)=false)(h5:∀d q,r=d::q→two c d=false):lex (c::r)=.sg [c]::lex r:=by
 rw[fh2,h1,h2,h3,h4]
 match r,h5 with
 |[],_=>rfl
 |d::q,h5=>
  simp only[h5 d q rfl];rfl
theorem fi1{c d:UInt8}{r:List UInt8}(h1:(c==32)=false)(h2:fg0 c=false)(h3:fg1 c=false)(h4:(c==39)=false)(h5:two c d=true):lex (c::d::r)=.sg [c,d]::lex r:=by
 rw[fh2,h1,h2,h3,h4];simp only[h5];rfl
theorem fi2{s:ByteArray}(h:cs4 s=true):∃c t,bl s=c::t∧fg0 c=true∧(∀x∈t,wC x=true)∧wdK (bl s)=.nm (bl s):=by
 unfold cs4 ca2 at h;simp only[fz4,decide_eq_true_eq,Bool.not_eq_true']at h;obtain⟨⟨h1,h2,h3,h4⟩,h5⟩:=h;have hsz:s.data.toList.length=s.size:=Oc
 have hat:∀(j:Nat) (x:UInt8),s.data.toList[j]? =some x→ag5 s j=(x.toNat:Int):=fun j x hx=>by
  unfold ag5;rw[gd6,hx];rfl
 cases e:s.data.toList with
 |nil=>rw[e]at hsz;simp at hsz;omega
 |cons c t=>
  refine⟨c,t,e,?_,fun x hx=>?_,?_⟩
  ·rw[hat 0 c (by rw[e];rfl)]at h3;exact h3
  ·obtain⟨i,hi⟩:=List.mem_iff_getElem?.1 hx
   have hlt:i+1<s.size:=by
    have:=(fy9.1 hi).1;rw[←hsz,e,fy7];omega
   have:=ga6.1 h4 (i+1) (gd5.2 hlt);rw[hat (i+1) x (by rw[e];exact hi)]at this;exact this
  ·unfold wdK;rw[em0,h5];rfl
theorem fi3{s:ByteArray}(h:cs4 s=true){r:List UInt8}(hr:dlm r):lex (bl s++r)=.nm (bl s)::lex r:=by
 obtain⟨c,t,e,hc,ht,hw⟩:=fi2 h;have:=fh8 hc ht hr;rw[e]at hw ⊢;rw[this,hw]
theorem fi4{c:UInt8}{t:List UInt8}(h:(fg0 c&&(t.all wC&&cr0 (bs (c::t))))=true){r:List UInt8}(hr:dlm r):lex (c::t++r)=.wd (c::t)::lex r:=by
 simp only[fz4,ga6]at h;rw[fh8 h.1 h.2.1 hr];unfold wdK;rw[h.2.2];rfl
theorem fi5{n:Int}(hn:0≤n){r:List UInt8}(hr:dlm r):lex (Lib.itoa n++r)=.num n::lex r:=by
 obtain⟨u,rfl⟩:=gh3 hn;have e0:Lib.itoa (u:Int)=Lib.decDigits u:=Lib.itoa_nonneg u;obtain⟨c,t,e,hc⟩:=fd3 u;have hd:∀x∈t,fg1 x=true:=fun x hx=>fd2 u x (by rw[e];simp[hx])
 have h:=fh4 (p:=fg1) hd (r:=r) fun x q eq=>by
  have:=(hr x q eq).1
  cases hx:fg1 x with
  |false=>rfl
  |true=>rw[((fh7 x).2 hx).2.2]at this;cases this
 have hv:=fd5 u;rw[e]at hv;obtain⟨k1,k2,-⟩:=(fh7 c).2 hc;rw[e0,e,gb4,fh2,k1,k2,show fg1 c=true from hc,h.1,h.2,hv];rfl
theorem fi6{c:UInt8}(h:(wC c||c==39)=false)(r:List UInt8):dlm (c::r):=fun d q e=>by
 cases e
 rw[gb3]at h;exact⟨h.1,by simpa using h.2⟩
theorem fi7{c:UInt8}(h:(c==32||(fg0 c||(fg1 c||(c==39||(c==60||(c==62||c==46))))))=false)(r:List UInt8):lex (c::r)=.sg [c]::lex r:=by
 simp only[gb3]at h;obtain⟨h1,h2,h3,h4,h5,h6,h7⟩:=h;refine fi0 h1 h2 h3 h4 fun d q _=>?_
 unfold two;rw[h5,h6,h7];rfl
def nmX(e:Ex):Prop:=(e.op=1→Val.okV e.v=true)∧(co5 e.op=true→cs4 e.nm=true)
theorem fi8{s:ByteArray}(h:Val.okV (.mk 4 0 0 s [])=true):txt (.mk 4 0 0 s [])=[39]++dbl s.data.toList++ [39]:=by
 rw[txt,h];rfl
theorem fi9{v:V}(h:fe4 v)(hok:Val.okV v=true){r:List UInt8}(hr:dlm r):lex (cw8 v++r)=fe3 v++lex r:=by
 rcases h with rfl|⟨k,hk|hk,rfl⟩|⟨k,hk,rfl⟩|⟨s,rfl⟩
 ·exact fi4 (c:=78) (t:=[85,76,76]) Oe hr
 ·subst hk;exact fi4 (c:=70) (t:=[65,76,83,69]) Oe hr
 ·subst hk;exact fi4 (c:=84) (t:=[82,85,69]) Oe hr
 ·have e:cw8 (.mk 2 k 0 ⟨#[]⟩ [])=Lib.itoa k:=by
   have:decide (k<0)=false:=Og
   show(bif decide (k<0)then _ else Lib.itoa k)=_;rw[this];rfl
  rw[e,fi5 hk hr];rfl
 ·have e:cw8 (.mk 4 0 0 s [])=txt (.mk 4 0 0 s []):=rfl;rw[e,fi8 hok];have:=fh9 (s:=s.data.toList) hr;simp only[fz5,gb4,gb7];rw[this];rfl
theorem fj0{k:Int}(h1:7≤k)(h2:k≤20)(r:List UInt8):lex (32::(sgT k++32::r))=sgK k::lex r:=by
 have key:k=7∨k=8∨k=9∨k=10∨k=11∨k=12∨k=13∨k=14∨k=15∨k=16∨k=17∨k=18∨k=19∨k=20:=Oa
 have d32:dlm (32::r):=fi6 Oe r;rw[fh3];rcases key with rfl|rfl|rfl|rfl|rfl|rfl|rfl|rfl|rfl|rfl|rfl|rfl|rfl|rfl
 ·show lex (43::32::r)=_;rw[fi7 Oe,fh3];rfl
 ·show lex (45::32::r)=_;rw[fi7 Oe,fh3];rfl
 ·show lex (42::32::r)=_;rw[fi7 Oe,fh3];rfl
 ·show lex (47::32::r)=_;rw[fi7 Oe,fh3];rfl
 ·show lex (37::32::r)=_;rw[fi7 Oe,fh3];rfl
 ·show lex (61::32::r)=_;rw[fi7 Oe,fh3];rfl
 ·show lex (60::62::32::r)=_;rw[fi1 rfl Od rfl rfl rfl,fh3];rfl
 ·show lex (60::32::r)=_;rw[fi0 rfl Od rfl rfl (fun d q e=>by cases e;rfl),fh3];rfl
 ·show lex (60::61::32::r)=_;rw[fi1 rfl Od rfl rfl rfl,fh3];rfl
 ·show lex (62::32::r)=_;rw[fi0 rfl Od rfl rfl (fun d q e=>by cases e;rfl),fh3];rfl
 ·show lex (62::61::32::r)=_;rw[fi1 rfl Od rfl rfl rfl,fh3];rfl
 ·have:=fi4 (c:=65) (t:=[78,68]) Oe d32;rw[fh3]at this;exact this
 ·have:=fi4 (c:=79) (t:=[82]) Oe d32;rw[fh3]at this;exact this
 ·have:=fi4 (c:=73) (t:=[78]) Oe d32;rw[fh3]at this;exact this
def LxX(x:Ex):Prop:=∀r,dlm r→lex (txE x++r)=tkE x++lex r
theorem fj1{x:Ex}(h:LxX x){r:List UInt8}(hr:dlm r):lex (opT x++r)=opK x++lex r:=by
 unfold opT opK
 cases cw9 x.op with
 |false=>exact h r hr
 |true=>
  have e:[40]++txE x++ [41]++r=40::(txE x++41::r):=Oc
  rw[cond_true,cond_true,e,fi7 Oe,h _ (fi6 (c:=41) Oe r),fi7 Oe];simp only[gb4,fz5,gb7];rfl
theorem fj2:∀(l:List Ex),(∀x∈l,LxX x)→∀r,dlm r→lex (Lib.join (l.map txE) [44,32]++r)=cmK (tkL l)++lex r
 |[],_,r,_=>by show lex ([]++r)=[]++lex r;rw[gb7,gb7]
 |[a],h,r,hr=>by
  rw[fz7,gd8,Lib.join_one];exact h a Oc r hr
 |a::b::q,h,r,hr=>by
  have ih:=fj2 (b::q) (fun x hx=>h x (gc2 _ hx)) r hr
  have e:Lib.join ((a::b::q).map txE) [44,32]=txE a++44::32::Lib.join ((b::q).map txE) [44,32]:=by
   rw[fz7,fz7,Lib.join_cons,Lib.join_cons];show txE a++(([44,32]++txE b)++Lib.joinTail [44,32] (q.map txE))=_;simp
  rw[e,fz5];show lex (txE a++44::32::(Lib.join ((b::q).map txE) [44,32]++r))=_;rw[h a Oc _ (fi6 (c:=44) Oe _),fi7 Oe,fh3,ih];show tkE a++(fe2 44::(cmK (tkL (b::q))++lex r))=(tkE a++fe2 44::cmK (tkL (b::q)))++lex r;rw[fz5];rfl
theorem fj3{op:Int}{v:V}{nm:ByteArray}{ds:Bool}{ks:List Ex}(h:alE nmX (.mk op v nm ds ks)):nmX (.mk op v nm ds ks)∧∀x∈ks,alE nmX x:=⟨h.1,cx7 h.2⟩
theorem fj4{x:Ex}(h:CX x):alE nmX x→LxX x:=by
 induction h with
 |cst v h=>
  intro ha r hr;exact fi9 h ((fj3 ha).1.1 rfl) hr
 |var s=>
  intro ha r hr;exact fi3 ((fj3 ha).1.2 rfl) hr
 |post k s a hk _ ih=>
  intro ha r hr;obtain⟨h1,h2⟩:=fj3 ha;have hw:cs4 s=true:=h1.2 (by rcases hk with rfl|rfl<;>rfl);have ih:=ih (h2 a Oc);obtain⟨c,t,e,hc,-,-⟩:=fi2 hw;rcases hk with rfl|rfl
  ·show lex (((opT a++ [46])++bl s)++r)=(opK a++ [fe2 46,.nm (bl s)])++lex r;rw[fz5,fz5];show lex (opT a++46::(bl s++r))=_;rw[fj1 ih (fi6 (c:=46) Oe _)]
   have e1:lex (46::(bl s++r))=.sg [46]::lex (bl s++r):=by
    refine fi0 rfl Od rfl rfl fun d q eq=>?_
    rw[e,gb4]at eq
    cases eq
    have:(c==46)=false:=by
     cases hx:c==46 with
     |false=>rfl
     |true=>rw[show c=46 by simpa using hx]at hc;exact absurd hc Od
    unfold two;rw[this];rfl
   rw[e1,fi3 hw hr,fz5];rfl
  ·show lex (((opT a++ [58])++bl s)++r)=(opK a++ [fe2 58,.nm (bl s)])++lex r;rw[fz5,fz5];show lex (opT a++58::(bl s++r))=_;rw[fj1 ih (fi6 (c:=58) Oe _)];have e1:lex (58::(bl s++r))=.sg [58]::lex (bl s++r):=fi7 Oe _;rw[e1,fi3 hw hr,fz5];rfl
 |un k a hk _ ih=>
  intro ha r hr;have ih:=ih ((fj3 ha).2 a Oc);rcases hk with rfl|rfl|rfl
  ·show lex ([78,79,84]++32::(opT a++r))=fd6::(opK a++lex r);have:=fi4 (c:=78) (t:=[79,84]) (r:=32::(opT a++r)) Oe (fi6 Oe _);rw[fh3,fj1 ih hr]at this;exact this
  ·show lex (45::(opT a++r))=fe2 45::(opK a++lex r);rw[fi7 Oe,fj1 ih hr];rfl
  ·show lex ((opT a++ [32,73,83,32,78,85,76,76])++r)=(opK a++ [fd7,fd8])++lex r;rw[fz5];show lex (opT a++32::([73,83,32,78,85,76,76]++r))=_;rw[fj1 ih (fi6 (c:=32) Oe _)]
   have e1:lex (32::([73,83,32,78,85,76,76]++r))=fd7::fd8::lex r:=by
    show lex (32::([73,83]++32::([78,85,76,76]++r)))=_;have a1:=fi4 (c:=73) (t:=[83]) (r:=32::([78,85,76,76]++r)) Oe (fi6 Oe _);have a2:=fi4 (c:=78) (t:=[85,76,76]) (r:=r) Oe hr;rw[fh3]at a1;rw[fh3];exact a1.trans (by rw[show([78,85,76,76]:List UInt8)++r=78::[85,76,76]++r from rfl,a2];rfl)
   rw[e1,fz5];rfl
 |bin k a b h1 h2 _ _ iha ihb=>
  intro ha r hr;obtain⟨-,hk⟩:=fj3 ha;have iha:=iha (hk a Oc);have ihb:=ihb (hk b Oc);have q:∀j:Int,(j<7∨20<j)→(k==j)=false:=fun j hj=>by rw[beq_eq_false_iff_ne];omega
  have e1:tkE (.mk k bq3 ⟨#[]⟩ false [a,b])=opK a++sgK k::opK b:=by
   rw[tkE,tkN,q 1 Oa,q 2 Oa,q 3 Oa,q 4 Oa,q 5 Oa,q 6 Oa,q 21 Oa,q 22 Oa,q 23 Oa,q 24 Oa];rfl
  have e2:txE (.mk k bq3 ⟨#[]⟩ false [a,b])=opT a++ [32]++sgT k++ [32]++opT b:=by
   rw[txE,txN,q 1 Oa,q 2 Oa,q 3 Oa,q 4 Oa,q 5 Oa,q 6 Oa,q 21 Oa,q 22 Oa,q 23 Oa,q 24 Oa];rfl
  rw[e1,e2];have e3:opT a++ [32]++sgT k++ [32]++opT b++r=opT a++32::(sgT k++32::(opT b++r)):=Oc
  rw[e3,fj1 iha (fi6 (c:=32) Oe _),fj0 h1 h2,fj1 ihb hr,fz5];rfl
 |lst l _ ih=>
  intro ha r hr;obtain⟨-,hk⟩:=fj3 ha
  have e2:txE (.mk 22 bq3 ⟨#[]⟩ false l)++r=91::(Lib.join (l.map txE) [44,32]++93::r):=by
   show(([91]++Lib.join (txL l) [44,32])++ [93])++r=_;rw[cx5];simp
  rw[e2,fi7 Oe,fj2 l (fun x hx=>ih x hx (hk x hx)) _ (fi6 (c:=93) Oe _),fi7 Oe];show _=(fe2 91::(cmK (tkL l)++ [fe2 93]))++lex r;simp only[gb4,fz5,gb7];rfl
 |fn s l hs0 _ ih=>
  intro ha r hr;obtain⟨h1,hk⟩:=fj3 ha;have hw:cs4 s=true:=h1.2 rfl
  have e2:txE (.mk 23 bq3 s false l)++r=bl s++40::(Lib.join (l.map txE) [44,32]++41::r):=by
   show(((bl s++ [40])++Lib.join (txL l) [44,32])++ [41])++r=_;rw[cx5];simp
  rw[e2,fi3 hw (fi6 (c:=40) Oe _),fi7 Oe,fj2 l (fun x hx=>ih x hx (hk x hx)) _ (fi6 (c:=41) Oe _),fi7 Oe];show _=(TK.nm (bl s)::fe2 40::(cmK (tkL l)++ [fe2 41]))++lex r;simp only[gb4,fz5,gb7];rfl
 |ag0 s hs0=>
  intro ha r hr;have hw:cs4 s=true:=(fj3 ha).1.2 rfl;show lex ((bl s++ [40,42,41])++r)=_;rw[fz5];show lex (bl s++40::42::41::r)=_;rw[fi3 hw (fi6 (c:=40) Oe _),fi7 Oe,fi7 Oe,fi7 Oe];rfl
 |ag1 s d a hs0 _ ih=>
  intro ha r hr;obtain⟨h1,hk⟩:=fj3 ha;have hw:cs4 s=true:=h1.2 rfl;have ih:=ih (hk a Oc)
  cases d with
  |true=>
   have e2:txE (.mk 24 bq3 s true [a])++r=bl s++40::([68,73,83,84,73,78,67,84]++32::(txE a++41::r)):=by
    show((bl s++ [40,68,73,83,84,73,78,67,84,32]++txE a)++ [41])++r=_;simp
   have a1:=fi4 (c:=68) (t:=[73,83,84,73,78,67,84]) (r:=32::(txE a++41::r)) Oe (fi6 Oe _);rw[e2,fi3 hw (fi6 (c:=40) Oe _),fi7 Oe];rw[fh3,ih _ (fi6 (c:=41) Oe _),fi7 Oe]at a1;show TK.nm (bl s)::fe2 40::lex (68::[73,83,84,73,78,67,84]++32::(txE a++41::r))=(TK.nm (bl s)::fe2 40::fe1::(tkE a++ [fe2 41]))++lex r;rw[a1];simp only[gb4,fz5,gb7];rfl
  |false=>
   have e2:txE (.mk 24 bq3 s false [a])++r=bl s++40::(txE a++41::r):=by
    show((bl s++ [40]++txE a)++ [41])++r=_;simp
   rw[e2,fi3 hw (fi6 (c:=40) Oe _),fi7 Oe,ih _ (fi6 (c:=41) Oe _),fi7 Oe];show _=(TK.nm (bl s)::fe2 40::(tkE a++ [fe2 41]))++lex r;simp only[gb4,fz5,gb7];rfl
theorem fj5{x y:Ex}(hx:CX x)(hy:CX y)(ax:alE nmX x)(ay:alE nmX y){r q:List UInt8}(hr:dlm r)(hq:dlm q)(sr:stE (lex r))(sq:stE (lex q))(h:txE x++r=txE y++q):x=y∧lex r=lex q:=by
 have e:=congrArg lex h;rw[fj4 hx ax r hr,fj4 hy ay q hq]at e;exact ff9 hx hy sr sq e
mutual
def fj6:Ex→Bool
 |.mk op v _ _ ks=>(op==1&&(v.k==2&&decide (v.n<0)))||fj7 ks
def fj7:List Ex→Bool
 |[]=>false
 |x::r=>fj6 x||fj7 r
end
theorem fj8:∀{l:List Ex},fj7 l=false→∀x∈l,fj6 x=false
 |[],_,x,h=>by cases h
 |a::r,h,x,hx=>by
  rw[fj7,gb3]at h;rcases fz0.1 hx with rfl|hx
  ·exact h.1
  ·exact fj8 h.2 x hx
theorem fj9{s:ByteArray}(h:s0 s=true):s=⟨#[]⟩:=dc2 (by simpa[s0]using h)
theorem fk0{v:V}(h:co1 v=true):v=bq3:=by
 obtain⟨k,n,d,s,l⟩:=v;simp only[co1,l0,V.k,V.n,V.d,V.s,V.l,fz4,beq_iff_eq]at h;obtain⟨h1,h2,h3,h4,h5⟩:=h;rw[fj9 h4]
 have h6:l.length=0:=by
  have:(bp2 l).length=l.length:=bp7 l;have h7:(((bp2 l).length:Nat):Int)=0:=h5;omega
 obtain rfl:=List.length_eq_zero_iff.1 h6;subst h1 h2 h3;rfl
theorem fk1{v:V}(h:co8 v=true)(hn:(v.k==2&&decide (v.n<0))=false):fe4 v∧Val.okV v=true:=by
 unfold co8 at h;rw[gb0]at h;rcases h with h|h
 ·rw[fk0 h];exact⟨.inl rfl,by decide+kernel⟩
 ·rw[fz4]at h;refine⟨?_,h.2⟩;obtain⟨k,n,d,s,l⟩:=v;obtain⟨hk,hok⟩:=h;simp only[V.k,gb0,beq_iff_eq]at hk;unfold Val.okV at hok;rw[bw2 8 k n d s l Oa Oa]at hok;simp only[V.k,V.n]at hn;rcases hk with rfl|rfl|rfl
  ·simp[bq5,V.k,V.n,V.d,V.s,V.l]at hok;obtain⟨⟨⟨h1,h2⟩,h3⟩,h4⟩:=hok;subst h1 h3;rw[fj9 h2];exact .inr (.inl ⟨n,h4,rfl⟩)
  ·simp[bq5,V.k,V.n,V.d,V.s,V.l]at hok;obtain⟨⟨⟨h1,h2⟩,h3⟩,h4⟩:=hok;subst h1 h3;rw[fj9 h2];have: ¬ n<0:=of_decide_eq_false hn;exact .inr (.inr (.inl ⟨n,by omega,rfl⟩))
  ·simp[bq5,V.k,V.n,V.d,V.s,V.l]at hok;obtain⟨⟨h1,h2⟩,h3,h4⟩:=hok;subst h1 h2 h3;exact .inr (.inr (.inr ⟨s,rfl⟩))
theorem fk2{s t:ByteArray}(h:isS s t=true)(ht:cs4 t=true):cs4 s=true:=by
 obtain rfl:=dc2 (by simpa[isS]using h:s.toList=t.toList);exact ht
theorem fk3{s:ByteArray}(h:cn8 s=true):cs4 s=true:=by
 unfold cn8 at h;simp only[gb0]at h;rcases h with h|h|h|h|h|h<;>exact fk2 h Oe
theorem fk4{s:ByteArray}(h:cn6 s≠0):cs4 s=true:=by
 unfold cn6 at h
 cases c1:cn4 s with
 |true=>
  unfold cn4 at c1;simp only[gb0]at c1;rcases c1 with h|h|h|h|h|h|h|h|h|h|h|h|h<;>exact fk2 h Oe
 |false=>
  cases c2:cn5 s with
  |true=>exact fk2 c2 Oe
  |false=>rw[c1,c2]at h;exact absurd rfl h
theorem fk5{s:ByteArray}(h:cn6 s≠0):cn8 s=false:=by
 have key:∀{t:ByteArray},isS s t=true→cn8 t=false→cn8 s=false:=fun{t} h1 h2=>by
  obtain rfl:=dc2 (by simpa[isS]using h1:s.toList=t.toList);exact h2
 unfold cn6 at h
 cases c1:cn4 s with
 |true=>
  unfold cn4 at c1;simp only[gb0]at c1;rcases c1 with h|h|h|h|h|h|h|h|h|h|h|h|h<;>exact key h Oe
 |false=>
  cases c2:cn5 s with
  |true=>exact key c2 Oe
  |false=>rw[c1,c2]at h;exact absurd rfl h
theorem fk6{op:Int}{v:V}{nm:ByteArray}{ds:Bool}{ks:List Ex}{w:Bool}(hs:cs8 (.mk op v nm ds ks) w=0):
  (1≤op∧op≤24)∧co3 (.mk op v nm ds ks)=true∧co6 (.mk op v nm ds ks)=true∧(op=1→co8 v=true)∧nlF (.mk op v nm ds ks)=false:=by
 unfold cs8 at hs;rw[show(Ex.mk op v nm ds ks).op=op from rfl,show(Ex.mk op v nm ds ks).v=v from rfl]at hs
 cases c1:(decide (op<1)||decide (op>24))||(!co3 (.mk op v nm ds ks)|| !co6 (.mk op v nm ds ks))with
 |true=>rw[c1]at hs;exact absurd (show(1:Int)=0 from hs) Od
 |false=>
 cases c2:op==1&& !co8 v with
 |true=>rw[c1,c2]at hs;exact absurd (show(8:Int)=0 from hs) Od
 |false=>
 cases c3:nlF (.mk op v nm ds ks)with
 |true=>rw[c1,c2,c3]at hs;exact absurd (show(6:Int)=0 from hs) Od
 |false=>
  simp only[gb3,Bool.not_eq_false',decide_eq_false_iff_not]at c1;refine⟨by omega,c1.2.1,c1.2.2,fun h=>?_,rfl⟩;rw[h]at c2;simpa using c2
theorem fk7(e:Ex):ct5 e=0→fj6 e=false→CX e∧alE nmX e:=by
 refine ca0 (P:=fun e=>ct5 e=0→fj6 e=false→CX e∧alE nmX e) (fun op v nm ds ks ih h hn=>?_) e;obtain⟨⟨h1,h24⟩,hop,hsp,hc,hnl⟩:=fk6 (dg8 (dh0 h).2.2);rw[fj6,gb3]at hn;have hk:∀x∈ks,CX x∧alE nmX x:=fun x hx=>ih x hx (dh7 h x hx) (fj8 hn.2 x hx)
 have hlen:(by9 (.mk op v nm ds ks)).length=ks.length:=by show(bz0 ks).length=_;exact bz7 ks
 unfold co6 at hsp;unfold co3 kn0 at hop;rw[hlen]at hop;unfold nlF at hnl;simp only[show(Ex.mk op v nm ds ks).op=op from rfl,show(Ex.mk op v nm ds ks).v=v from rfl,show(Ex.mk op v nm ds ks).nm=nm from rfl,show(Ex.mk op v nm ds ks).ds=ds from rfl]at hsp hop hnl;simp only[fz4,gb0]at hsp;obtain⟨hv,hnm,hds⟩:=hsp;have hv:op≠1→v=bq3:=fun h=>fk0 (hv.elim (fun hv=>absurd (by simpa using hv) h) id)
 have hnm:co5 op=false→nm=⟨#[]⟩:=fun h=>by
  rcases hnm with hnm|hnm
  ·rw[h]at hnm;cases hnm
  ·exact dc2 (by simpa[isS]using hnm)
 have hds:op≠24→ds=false:=fun h=>by
  rcases hds with hds|hds
  ·exact absurd (by simpa using hds) h
  ·simpa using hds
 have al:nmX (.mk op v nm ds ks)→alE nmX (.mk op v nm ds ks):=fun hm=>⟨hm,cx8 fun x hx=>(hk x hx).2⟩
 have n1:∀{l:List Ex},((l.length:Int)==1)=true→∃a,l=[a]:=fun{l} h=>List.length_eq_one_iff.1 (by have:(l.length:Int)=1:=(by simpa using h);omega)
 have n2:∀{l:List Ex},((l.length:Int)==2)=true→∃a b,l=[a,b]:=fun{l} h=>by
  have:(l.length:Int)=2:=by simpa using h
  match l,this with
  |[a,b],_=>exact⟨a,b,rfl⟩
  |[],h=>simp at h
  |[_],h=>simp at h
  |_::_::_::_,h=>simp at h;omega
 have n0:∀{l:List Ex},((l.length:Int)==0)=true→l=[]:=fun{l} h=>gf1 (by have:(l.length:Int)=0:=(by simpa using h);omega)
 have key:op=1∨op=2∨op=3∨op=4∨op=5∨op=6∨(7≤op∧op≤20)∨op=21∨op=22∨op=23∨op=24:=Oa
 rcases key with rfl|rfl|rfl|rfl|rfl|rfl|hb|rfl|rfl|rfl|rfl
 ·obtain rfl:=n0 hop;obtain rfl:=hnm rfl;obtain rfl:=hds Od;have:=fk1 (hc rfl) hn.1;exact⟨.cst v this.1,al ⟨fun _=>this.2,fun h=>by cases h⟩⟩
 ·obtain rfl:=n0 hop;obtain rfl:=hv Od;obtain rfl:=hds Od;exact⟨.var nm,al ⟨fun h=>absurd (show(2:Int)=1 from h) Od,fun _=>show cs4 nm=true by simpa using hnl⟩⟩
 ·obtain⟨a,rfl⟩:=n1 hop;obtain rfl:=hv Od;obtain rfl:=hds Od;exact⟨.post 3 nm a (.inl rfl) (hk a Oc).1,al ⟨fun h=>absurd h (show(3:Int)≠1 by decide),fun _=>show cs4 nm=true by simpa using hnl⟩⟩
 ·obtain⟨a,rfl⟩:=n1 hop;obtain rfl:=hv Od;obtain rfl:=hds Od;exact⟨.post 4 nm a (.inr rfl) (hk a Oc).1,al ⟨fun h=>absurd h (show(4:Int)≠1 by decide),fun _=>show cs4 nm=true by simpa using hnl⟩⟩
 ·obtain⟨a,rfl⟩:=n1 hop;obtain rfl:=hv Od;obtain rfl:=hnm rfl;obtain rfl:=hds Od;exact⟨.un 5 a (.inl rfl) (hk a Oc).1,al ⟨fun h=>absurd h (show(5:Int)≠1 by decide),fun h=>by cases h⟩⟩
 ·obtain⟨a,rfl⟩:=n1 hop;obtain rfl:=hv Od;obtain rfl:=hnm rfl;obtain rfl:=hds Od;exact⟨.un 6 a (.inr (.inl rfl)) (hk a Oc).1,al ⟨fun h=>absurd h (show(6:Int)≠1 by decide),fun h=>by cases h⟩⟩
 ·have q:∀j:Int,(j<7∨20<j)→(op==j)=false:=fun j hj=>by rw[beq_eq_false_iff_ne];omega
  simp only[q 1 Oa,q 2 Oa,q 3 Oa,q 4 Oa,q 5 Oa,q 6 Oa,q 21 Oa,q 22 Oa,q 23 Oa,q 24 Oa,gd0,cond_false]at hop;have hnf:co5 op=false:=by unfold co5;rw[q 2 Oa,q 3 Oa,q 4 Oa,q 23 Oa,q 24 Oa];rfl
  obtain⟨a,b,rfl⟩:=n2 hop;obtain rfl:=hv Oa;obtain rfl:=hnm hnf;obtain rfl:=hds Oa;exact⟨.bin op a b hb.1 hb.2 (hk a Oc).1 (hk b Oc).1,al ⟨fun h=>absurd (show op=1 from h) Oa,fun h=>by rw[show co5 (Ex.mk op bq3 ⟨#[]⟩ false [a,b]).op=co5 op from rfl,hnf]at h;cases h⟩⟩
 ·obtain⟨a,rfl⟩:=n1 hop;obtain rfl:=hv Od;obtain rfl:=hnm rfl;obtain rfl:=hds Od;exact⟨.un 21 a (.inr (.inr rfl)) (hk a Oc).1,al ⟨fun h=>absurd h (show(21:Int)≠1 by decide),fun h=>by cases h⟩⟩
 ·obtain rfl:=hv Od;obtain rfl:=hnm rfl;obtain rfl:=hds Od;exact⟨.lst ks fun x hx=>(hk x hx).1,al ⟨fun h=>absurd h (show(22:Int)≠1 by decide),fun h=>by cases h⟩⟩
 ·obtain rfl:=hv Od;obtain rfl:=hds Od;have ha:cn6 nm≠0:=by simpa using hnl
  exact⟨.fn nm ks (fk5 ha) fun x hx=>(hk x hx).1,al ⟨fun h=>absurd h (show(23:Int)≠1 by decide),fun _=>fk4 ha⟩⟩
 ·obtain rfl:=hv Od;have ha:cn8 nm=true:=by simpa using hnl
  have hop:((ks.length:Int)==1||((ks.length:Int)==0&&(isS nm ⟨#[99,111,117,110,116]⟩ && !ds)))=true:=hop;rw[gb0]at hop;rcases hop with hop|hop
  ·obtain⟨a,rfl⟩:=n1 hop;exact⟨.ag1 nm ds a ha (hk a Oc).1,al ⟨fun h=>absurd h (show(24:Int)≠1 by decide),fun _=>fk3 ha⟩⟩
  ·simp only[fz4,Bool.not_eq_true']at hop;obtain rfl:=n0 hop.1;obtain rfl:ds=false:=hop.2.2;exact⟨.ag0 nm ha,al ⟨fun h=>absurd h (show(24:Int)≠1 by decide),fun _=>fk3 ha⟩⟩
end Go.Proofs.YtndgolmgaenlfaaGreatDoor
