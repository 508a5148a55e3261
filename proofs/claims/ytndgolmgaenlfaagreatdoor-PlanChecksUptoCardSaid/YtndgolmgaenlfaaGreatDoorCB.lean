/- Assignments, and how many elements a clause's lists have, by both texts; How many elements a clause's lists have, by both texts; How many elements a c. Conditions: each part's own, as it says. -/
import Derived.Test.YtndgolmgaenlfaaGreatDoorCA
import Derived.Test.YtndgolmgaenlfaaGreatDoorGC
set_option linter.unusedVariables false
set_option linter.unusedSimpArgs false
namespace Go.Proofs.YtndgolmgaenlfaaGreatDoor
set_option maxRecDepth 4000
open Go Go.Abs Go.Val Go.RowKit Go.Proofs.Tryz
attribute [local irreducible] go SGo an1 Ev au8 EvO EvS RGo
theorem ec6(x:SIt)(he:dp5 x.e):Ev E 274 [co5 x] (.d (.int (cq7 x))):=by
 obtain⟨vr,key,lb,off,e⟩:=x;have h1:=ds4 e;have h2:=cm5 vr;have h3:=cm5 lb;have h4:=cm5 key;have h5:=cn8 e he.1 he.2;obtain⟨z,hz⟩:∃b,cq3 e=b:=⟨_,rfl⟩;obtain⟨w1,hw1⟩:∃b,cm2 vr=b:=⟨_,rfl⟩;obtain⟨w2,hw2⟩:∃b,cm2 lb=b:=⟨_,rfl⟩;obtain⟨w3,hw3⟩:∃b,cm2 key=b:=⟨_,rfl⟩;obtain⟨ce,hce⟩:∃n,cn6 e=n:=⟨_,rfl⟩;have hs:cq7 ⟨vr,key,lb,off,e⟩=(bif !(lb.toList==(⟨#[]⟩:ByteArray).toList) &&(!(key.toList==(⟨#[]⟩:ByteArray).toList)|| !z)||(lb.toList==(⟨#[]⟩:ByteArray).toList) &&off then 1 else bif !w1||(!(lb.toList==(⟨#[]⟩:ByteArray).toList) && !w2||(lb.toList==(⟨#[]⟩:ByteArray).toList) && !w3)then 6 else bif (lb.toList==(⟨#[]⟩:ByteArray).toList)then ce else 0):=by rw[←hz,←hw1,←hw2,←hw3,←hce];rfl
 rw[hs];rw[hz]at h1;rw[hw1]at h2;rw[hw2]at h3;rw[hw3]at h4;rw[hce]at h5;refine ye1 func274 ntmps274 fun _ _ _=>?_
 repeat'(first|refine yz ?_|refine yp bp7 h1 ?_|refine qP (d:=28) rfl rfl rfl rfl rfl rfl b77 (h2) ?_|refine qP (d:=37) rfl rfl rfl rfl rfl rfl b77 (h3) ?_|refine qP (d:=48) rfl rfl rfl rfl rfl rfl b77 (h4) ?_|refine yp b76 h5 ?_|refine yx ?_|(refine yy ?_ ?_<;>intro _)|(refine qV rfl ?_ ?_<;>intro _)|exact zD|exact zL)
 all_goals(refine congrArg D.int ?_;clear hs hz hw1 hw2 hw3 hce h1 h2 h3 h4 h5 he;simp_all [fn2])
theorem ec7(x:SIt)(he:dp5 x.e):Ev E 128 [co5 x] (.d (.int (cq7 x))):=by
 obtain⟨vr,key,lb,off,e⟩:=x;have h1:=ds3 e;have h2:=cm4 vr;have h3:=cm4 lb;have h4:=cm4 key;have h5:=cn7 e he.1 he.2;obtain⟨z,hz⟩:∃b,cq3 e=b:=⟨_,rfl⟩;obtain⟨w1,hw1⟩:∃b,cm2 vr=b:=⟨_,rfl⟩;obtain⟨w2,hw2⟩:∃b,cm2 lb=b:=⟨_,rfl⟩;obtain⟨w3,hw3⟩:∃b,cm2 key=b:=⟨_,rfl⟩;obtain⟨ce,hce⟩:∃n,cn6 e=n:=⟨_,rfl⟩;have hs:cq7 ⟨vr,key,lb,off,e⟩=(bif !(lb.toList==(⟨#[]⟩:ByteArray).toList) &&(!(key.toList==(⟨#[]⟩:ByteArray).toList)|| !z)||(lb.toList==(⟨#[]⟩:ByteArray).toList) &&off then 1 else bif !w1||(!(lb.toList==(⟨#[]⟩:ByteArray).toList) && !w2||(lb.toList==(⟨#[]⟩:ByteArray).toList) && !w3)then 6 else bif (lb.toList==(⟨#[]⟩:ByteArray).toList)then ce else 0):=by rw[←hz,←hw1,←hw2,←hw3,←hce];rfl
 rw[hs];rw[hz]at h1;rw[hw1]at h2;rw[hw2]at h3;rw[hw3]at h4;rw[hce]at h5;refine ye1 func128 ntmps128 fun _ _ _=>?_
 repeat'(first|refine yz ?_|refine yp b192 h1 ?_|refine qP (d:=28) rfl rfl rfl rfl rfl rfl br0 (h2) ?_|refine qP (d:=36) rfl rfl rfl rfl rfl rfl br0 (h3) ?_|refine qP (d:=45) rfl rfl rfl rfl rfl rfl br0 (h4) ?_|refine yp b61 h5 ?_|refine yx ?_|(refine yy ?_ ?_<;>intro _)|(refine qV rfl ?_ ?_<;>intro _)|exact zD|exact zL)
 all_goals(refine congrArg D.int ?_;clear hs hz hw1 hw2 hw3 hce h1 h2 h3 h4 h5 he;simp_all [fn2])
set_option maxHeartbeats 2000000 in
theorem ec8(c:CL):Ev E 213 [co6 c] (.d (.bool (!cq6 c))):=by
 obtain⟨k,opt,ds,ps,wh,e,nm,it,od,sk,lm,st,ns⟩:=c;have l1:(ps.map co2).length=ps.length:=Oc
 have l2:(by0 wh).length=wh.length:=by
  induction wh with
  |nil=>rfl
  |cons x r ih=>simp[by0,ih]
 have l3:(it.map co3).length=it.length:=Oc
 have l4:(od.map co4).length=od.length:=Oc
 have l5:(st.map co5).length=st.length:=Oc
 have l6:(ns.map D.str).length=ns.length:=Oc
 refine ye1 func213 ntmps213 fun _ _ _=>?_
 repeat'(first|refine yz ?_|refine yx ?_|(refine yy ?_ ?_<;>intro _)|(refine qV rfl ?_ ?_<;>intro _)|exact zD|exact zL)
 all_goals(refine congrArg D.bool ?_;simp_all [cq6,inN,fn2])
 all_goals first|omega|(rw[fk9];simp;omega)
set_option maxHeartbeats 2000000 in
theorem ec9(c:CL):Ev E 124 [co6 c] (.d (.bool (cq6 c))):=by
 obtain⟨k,opt,ds,ps,wh,e,nm,it,od,sk,lm,st,ns⟩:=c;have l1:(ps.map co2).length=ps.length:=Oc
 have l2:(by0 wh).length=wh.length:=by
  induction wh with
  |nil=>rfl
  |cons x r ih=>simp[by0,ih]
 have l3:(it.map co3).length=it.length:=Oc
 have l4:(od.map co4).length=od.length:=Oc
 have l5:(st.map co5).length=st.length:=Oc
 have l6:(ns.map D.str).length=ns.length:=Oc
 have w1:Ev E 194 [.int (ps.map co2).length,.int 1,.int 6] (.d (.bool (inN ps.length 1 6))):=by have:=within_ev (ps.map co2).length 1 6;rw[show inN (ps.map co2).length 1 6=inN ps.length 1 6 by rw[l1]]at this;exact this
 have w2:Ev E 194 [.int (it.map co3).length,.int 1,.int 16] (.d (.bool (inN it.length 1 16))):=by have:=within_ev (it.map co3).length 1 16;rw[show inN (it.map co3).length 1 16=inN it.length 1 16 by rw[l3]]at this;exact this
 have w3:Ev E 194 [.int (st.map co5).length,.int 1,.int 16] (.d (.bool (inN st.length 1 16))):=by have:=within_ev (st.map co5).length 1 16;rw[show inN (st.map co5).length 1 16=inN st.length 1 16 by rw[l5]]at this;exact this
 have w4:Ev E 194 [.int (ns.map D.str).length,.int 1,.int 16] (.d (.bool (inN ns.length 1 16))):=by have:=within_ev (ns.map D.str).length 1 16;rw[show inN (ns.map D.str).length 1 16=inN ns.length 1 16 by rw[l6]]at this;exact this
 have hbw:=b194;refine ye1 func124 ntmps124 fun _ _ _=>?_
 repeat'(first|refine yz ?_|refine yp hbw w1 ?_|refine yp hbw w2 ?_|refine yp hbw w3 ?_|refine yp hbw w4 ?_|refine yx ?_|(refine yy ?_ ?_<;>intro _)|(refine qV rfl ?_ ?_<;>intro _)|exact zD|exact zL)
 all_goals(refine congrArg D.bool ?_;clear w1 w2 w3 w4 hbw;simp_all [cq6,inN,fn2])
 all_goals first|omega|(rw[fk9];simp;omega)
theorem ed0(l:List Int)(x:Int):Ev E 265 [.sl (l.map D.int),.int x] (.d (.int (ct5 (l.findIdx? fun y=>x==y)))):=Ev.fit fun hfit=>by
 have hmax:=(ct4 (hfit (.sl (l.map D.int)) Oc)).1;have hle:(l.map D.int).length=l.length:=Oc
 refine ye2 func265 ntmps265 fun _ _ _=>?_
 repeat'(first|refine yz ?_|refine yx ?_|(refine yy ?_ ?_<;>intro _)|exact zD|exact zL)
 refine ac7 (α:=SFc l fun y=>x==y) (fun p=>⟨[(0,.d (.sl (l.map D.int))),(1,.d (.int x)),(7,.d (.int (l.map D.int).length)),(8,.d (.int p.i))],[]⟩) (fun p=>l.length-p.i) ⟨0,by omega,fun j hj=>absurd hj Oa⟩ (zle 0) ?_;rintro⟨i,hi,ok⟩;dsimp only;rcases fj8 i l.length with hlt|hge
 ·have g1:decide ((i:Int)<((l.map D.int).length:Int))=true:=by rw[hle];simpa using hlt
  have hx0:=fj7 hlt;generalize l[i]=y at hx0;have hx:(l.map D.int)[((i:Nat):Int).toNat]? =some (.int y):=ct3 (f:=D.int) hx0
  cases hc:x==y with
  |true=>
   rw[ct6 hx0 hc ok]
   repeat'(first|refine yz ?_|refine yi (.int y) hx ?_|refine yx ?_|(refine yy ?_ ?_<;>intro _)|exact zD|exact zL)
  |false=>
   repeat'(first|refine yz ?_|refine yi (.int y) hx ?_|refine yx ?_|(refine yy ?_ ?_<;>intro _)|exact zD|exact zL)
   refine ac1 ?_;exact⟨⟨i+1,by omega,SFc.next hx0 hc ok⟩,by dsimp only;omega,(zle 0)⟩
 ·have g1:decide ((i:Int)<((l.map D.int).length:Int))=false:=by rw[hle];simp;omega
  rw[ct7 fun j hj=>ok j Oa]
  exact Ok
theorem ed1(l:List Int)(x:Int):Ev E 191 [.sl (l.map D.int),.int x] (.d (.bool (l.any fun y=>x==y))):=by
 have h:=ed0 l x;rw[←ct8];refine ye2 func191 ntmps191 fun _ _ _=>?_
 repeat'(first|refine yz ?_|refine yp b265 h ?_|refine yx ?_|(refine yy ?_ ?_<;>intro _)|exact zD|exact zL)
abbrev oCL(c:CL):aa5:=.var 38 (.w (.d (co6 c)))
theorem ed2(c:CL)(l:List Int):EvS E 190 [.d (.sl (l.map D.int)),.ptr 0 0] [oCL c] (.d (.bool (l.any fun y=>c.k==y))) [oCL c]:=by
 obtain⟨k,opt,ds,ps,wh,e,nm,it,od,sk,lm,st,ns⟩:=c;have h:=ed1 l k;refine yn func190 ntmps190 fun _ _ _ _=>?_
 repeat'(first|refine yz ?_|refine yp b191 h ?_|refine bb2 [0] rfl rfl rfl rfl rfl ?_|refine yx ?_|(refine yy ?_ ?_<;>intro _)|exact zD|exact zL)
 rfl
def oLi(b:Bool)(a:Int):aa5:=.var 164 (bif b then .w (.d (.int a))else .cs [.d (.int a)])
def adI(a e:Int):Int:=bif a==0 then e else a
def adB(b:Bool)(a:Int):Bool:=bif a==0 then true else b
theorem ed3(b:Bool)(a e:Int):EvS E 125 [.ptr 0 0,.d (.int e)] [oLi b a] (.tup []) [oLi (adB b a) (adI a e)]:=by
 unfold adI adB oLi
 cases b with
 |true=>
  cases c1:a==0 with
  |true=>
   simp only[cond_true];refine yn func125 ntmps125 fun _ _ _ _=>?_
   repeat'(first|refine yz ?_|refine bb0 [0] rfl rfl rfl rfl|refine bb1 [0] rfl rfl rfl rfl|refine yx ?_|(refine yy ?_ ?_<;>intro _)|exact zD|exact zL)
  |false=>
   simp only[cond_true,cond_false];refine yn func125 ntmps125 fun _ _ _ _=>?_
   repeat'(first|refine yz ?_|refine bb0 [0] rfl rfl rfl rfl|refine bb1 [0] rfl rfl rfl rfl|refine yx ?_|(refine yy ?_ ?_<;>intro _)|exact zD|exact zL)
 |false=>
  cases c1:a==0 with
  |true=>
   simp only[cond_true,cond_false];refine yn func125 ntmps125 fun _ _ _ _=>?_
   repeat'(first|refine yz ?_|refine bb0 [0] rfl rfl rfl rfl|refine bb1 [0] rfl rfl rfl rfl|refine yx ?_|(refine yy ?_ ?_<;>intro _)|exact zD|exact zL)
  |false=>
   simp only[cond_false];refine yn func125 ntmps125 fun _ _ _ _=>?_
   repeat'(first|refine yz ?_|refine bb0 [0] rfl rfl rfl rfl|refine bb1 [0] rfl rfl rfl rfl|refine yx ?_|(refine yy ?_ ?_<;>intro _)|exact zD|exact zL)
def neB(b:Bool)(a:Int)(s:ByteArray):Bool:=bif cm2 s then b else adB b a
theorem ed4(b:Bool)(a:Int)(s:ByteArray):EvS E 127 [.ptr 0 0,.d (.str s)] [oLi b a] (.tup []) [oLi (neB b a s) (adI a (cq9 s))]:=by
 have h:=cm4 s;unfold cq9 neB
 cases c1:cm2 s with
 |true=>
  rw[c1]at h;have e:adI a (bif true then 0 else 6)=a:=by unfold adI;cases c:a==0<;>simp_all
  rw[e,cond_true]
  cases b with
  |true=>
   refine yn func127 ntmps127 fun _ _ _ _=>?_
   repeat'(first|refine yz ?_|refine yp br0 h ?_|refine bb0 [0] rfl rfl rfl rfl|refine bb1 [0] rfl rfl rfl rfl|refine yx ?_|(refine yy ?_ ?_<;>intro _)|exact zD|exact zL)
  |false=>
   refine yn func127 ntmps127 fun _ _ _ _=>?_
   repeat'(first|refine yz ?_|refine yp br0 h ?_|refine bb0 [0] rfl rfl rfl rfl|refine bb1 [0] rfl rfl rfl rfl|refine yx ?_|(refine yy ?_ ?_<;>intro _)|exact zD|exact zL)
 |false=>
  rw[c1]at h;have ha:=ed3 b a 6;rw[cond_false,cond_false];unfold adB adI at ha ⊢
  cases b with
  |true=>
   cases c2:a==0 with
   |true=>
    rw[c2]at ha;refine yn func127 ntmps127 fun _ _ _ _=>?_
    repeat'(first|refine yz ?_|refine yp br0 h ?_|refine yc [0] bp3 (ha) ?_|refine bb0 [0] rfl rfl rfl rfl|refine bb1 [0] rfl rfl rfl rfl|refine yx ?_|(refine yy ?_ ?_<;>intro _)|exact zD|exact zL)
   |false=>
    rw[c2]at ha;refine yn func127 ntmps127 fun _ _ _ _=>?_
    repeat'(first|refine yz ?_|refine yp br0 h ?_|refine yc [0] bp3 (ha) ?_|refine bb0 [0] rfl rfl rfl rfl|refine bb1 [0] rfl rfl rfl rfl|refine yx ?_|(refine yy ?_ ?_<;>intro _)|exact zD|exact zL)
  |false=>
   cases c2:a==0 with
   |true=>
    rw[c2]at ha;refine yn func127 ntmps127 fun _ _ _ _=>?_
    repeat'(first|refine yz ?_|refine yp br0 h ?_|refine yc [0] bp3 (ha) ?_|refine bb0 [0] rfl rfl rfl rfl|refine bb1 [0] rfl rfl rfl rfl|refine yx ?_|(refine yy ?_ ?_<;>intro _)|exact zD|exact zL)
   |false=>
    rw[c2]at ha;refine yn func127 ntmps127 fun _ _ _ _=>?_
    repeat'(first|refine yz ?_|refine yp br0 h ?_|refine yc [0] bp3 (ha) ?_|refine bb0 [0] rfl rfl rfl rfl|refine bb1 [0] rfl rfl rfl rfl|refine yx ?_|(refine yy ?_ ?_<;>intro _)|exact zD|exact zL)
def wiK(k:Int):Bool:=k==3||k==4
def un1(c:CL):Bool:=(c.opt&&(c.k !=1&&c.k !=8))||(c.ds&& !wiK c.k)
def un2(c:CL):Bool:=decide ((c.ps.length:Int)>0) &&(c.k !=1&&(c.k !=5&&c.k !=6))
def un3(c:CL):Bool:=decide ((c.wh.length:Int)>0) &&(c.k !=1&&c.k !=3)
def un4(c:CL):Bool:=c.k !=2&&(!cq3 c.e|| !s0B c.nm)
def un5(c:CL):Bool:= !wiK c.k&&(((decide ((c.it.length:Int)>0)||decide ((c.od.length:Int)>0))||decide (c.sk>0))||decide (c.lm>0))
def un6(c:CL):Bool:=((c.st.length:Int)==0||c.k==7) &&((c.ns.length:Int)==0||c.k==8)
def ed5(c:CL):Bool:= !un1 c&&(!un2 c&&(!un3 c&&(!un4 c&&(!un5 c&&un6 c))))
set_option maxHeartbeats 4000000 in
theorem ed6(c:CL):Ev E 212 [co6 c] (.d (.bool (ed5 c))):=by
 have l2:(by0 c.wh).length=c.wh.length:=by
  generalize c.wh=wh
  induction wh with
  |nil=>rfl
  |cons x r ih=>simp[by0,ih]
 have h:=ds4 c.e;unfold ed5;obtain⟨v1,h1⟩:∃b,un1 c=b:=⟨_,rfl⟩;obtain⟨v2,h2⟩:∃b,un2 c=b:=⟨_,rfl⟩;obtain⟨v3,h3⟩:∃b,un3 c=b:=⟨_,rfl⟩;obtain⟨v4,h4⟩:∃b,un4 c=b:=⟨_,rfl⟩;obtain⟨v5,h5⟩:∃b,un5 c=b:=⟨_,rfl⟩;obtain⟨v6,h6⟩:∃b,un6 c=b:=⟨_,rfl⟩;obtain⟨w,hw⟩:∃b,wiK c.k=b:=⟨_,rfl⟩;rw[h1,h2,h3,h4,h5,h6];unfold un1 un5 at*;unfold un2 un3 un4 un6 at*;rw[hw]at h1 h5;obtain⟨k,opt,ds,ps,wh,e,nm,it,od,sk,lm,st,ns⟩:=c;dsimp only at l2 h h1 h2 h3 h4 h5 h6 hw;have l1:(ps.map co2).length=ps.length:=Oc
 have l3:(it.map co3).length=it.length:=Oc
 have l4:(od.map co4).length=od.length:=Oc
 have l5:(st.map co5).length=st.length:=Oc
 have l6:(ns.map D.str).length=ns.length:=Oc
 have hs:s0B nm=(nm.toList==(⟨#[]⟩:ByteArray).toList):=rfl;obtain⟨z,hz⟩:∃b,cq3 e=b:=⟨_,rfl⟩;rw[hz]at h h4;rw[hs]at h4;clear hs hz;refine ye1 func212 ntmps212 fun _ _ _=>?_
 repeat'(first|refine bd3 2 (fun b=>⟨[(4,.d (.bool b)),(1,.ptr 0 0),(3,.d (.int k))],[oCL ⟨k,opt,ds,ps,wh,e,nm,it,od,sk,lm,st,ns⟩]⟩) (w) ?_ ?_|refine bd3 3 (fun b=>⟨[(30,.d (.bool b)),(4,.d (.bool w)),(1,.ptr 0 0),(3,.d (.int k))],[oCL ⟨k,opt,ds,ps,wh,e,nm,it,od,sk,lm,st,ns⟩]⟩) (v1) ?_ ?_|refine bd3 5 (fun b=>⟨[(46,.d (.bool b)),(4,.d (.bool w)),(1,.ptr 0 0),(3,.d (.int k))],[oCL ⟨k,opt,ds,ps,wh,e,nm,it,od,sk,lm,st,ns⟩]⟩) (v2) ?_ ?_|refine bd3 7 (fun b=>⟨[(58,.d (.bool b)),(4,.d (.bool w)),(1,.ptr 0 0),(3,.d (.int k))],[oCL ⟨k,opt,ds,ps,wh,e,nm,it,od,sk,lm,st,ns⟩]⟩) (v3) ?_ ?_|refine bd3 9 (fun b=>⟨[(71,.d (.bool b)),(4,.d (.bool w)),(1,.ptr 0 0),(3,.d (.int k))],[oCL ⟨k,opt,ds,ps,wh,e,nm,it,od,sk,lm,st,ns⟩]⟩) (v4) ?_ ?_|refine bd3 11 (fun b=>⟨[(95,.d (.bool b)),(4,.d (.bool w)),(1,.ptr 0 0),(3,.d (.int k))],[oCL ⟨k,opt,ds,ps,wh,e,nm,it,od,sk,lm,st,ns⟩]⟩) (v5) ?_ ?_|refine yz ?_|refine yp bp7 h ?_|refine ac1 ⟨_,?_,(zle 1)⟩|refine yx ?_|(refine yy ?_ ?_<;>intro _)|(refine qV rfl ?_ ?_<;>intro _)|exact zD|exact zL)
 all_goals clear h
 any_goals(refine Eq.trans ?_ hw;clear hw h1 h2 h3 h4 h5 h6;unfold wiK;simp_all;done)
 all_goals first|(refine Eq.trans ?_ h1;clear hw h1 h2 h3 h4 h5 h6;simp_all;done)|(refine Eq.trans ?_ h1;clear hw h1 h2 h3 h4 h5 h6;simp_all;(rw[fk9];simp;omega))|skip
 all_goals first|(refine Eq.trans ?_ h2;clear hw h1 h2 h3 h4 h5 h6;simp_all;done)|(refine Eq.trans ?_ h2;clear hw h1 h2 h3 h4 h5 h6;simp_all;(rw[fk9];simp;omega))|skip
 all_goals first|(refine Eq.trans ?_ h3;clear hw h1 h2 h3 h4 h5 h6;simp_all;done)|(refine Eq.trans ?_ h3;clear hw h1 h2 h3 h4 h5 h6;simp_all;(rw[fk9];simp;omega))|skip
 all_goals first|(refine Eq.trans ?_ h4;clear hw h1 h2 h3 h4 h5 h6;simp_all;done)|(refine Eq.trans ?_ h4;clear hw h1 h2 h3 h4 h5 h6;simp_all;(rw[fk9];simp;omega))|skip
 all_goals first|(refine Eq.trans ?_ h5;clear hw h1 h2 h3 h4 h5 h6;simp_all;done)|(refine Eq.trans ?_ h5;clear hw h1 h2 h3 h4 h5 h6;simp_all;(rw[fk9];simp;omega))|skip
 all_goals first|(refine Eq.trans ?_ h5;clear hw h1 h2 h3 h4 h5 h6;dsimp only at*;rw[l3,l4]at*;simp_all;done)|(refine Eq.trans ?_ h5;clear hw h1 h2 h3 h4 h5 h6;dsimp only at*;simp_all;cases w<;>simp_all;done)|skip
 all_goals first|(refine congrArg D.bool ?_;clear hw h1 h2 h3 h4 h5;subst h6;simp_all;done)|(refine congrArg D.bool ?_;clear hw h1 h2 h3 h4 h5;subst h6;simp_all;(rw[fk9];simp;omega))|skip
 all_goals(refine Eq.trans ?_ h5;rename_i q4 q3 q2 q1;simp only[cond_false,cond_true,l3,l4]at q1 q2 q3 q4 ⊢;rw[q4,q3,q2,q1];rfl)
end Go.Proofs.YtndgolmgaenlfaaGreatDoor
namespace Go.Proofs.YtndgolmgaenlfaaGreatDoor
set_option maxRecDepth 4000
open Go Go.Abs Go.Val Go.RowKit Go.Proofs.Tryz
def ed7(c:CL):Bool:=decide (c.sk< -1)||(decide (c.sk>1000000000000000)||(decide (c.lm< -1)||decide (c.lm>1000000000000000)))
theorem ed8{a b:Int}(h:decide (a< -1)=false)(h':decide (b< -1)=false):(!(cq4 a)|| !(cq4 b))=(decide (a>0)||decide (b>0)):=by
 have h1:=of_decide_eq_false h;have h2:=of_decide_eq_false h';unfold cq4;rw[fk9];simp;omega
theorem ed9(n:Nat):decide ((n:Int)>0)=decide (n>0):=by rw[fk9];simp
theorem ee0(n:Nat):((n:Int)==0)= !decide (n>0):=by rw[fk9];simp
theorem ee1(c:CL):cq5 c=(!ed5 c||ed7 c):=by
 unfold cq5 ed5 ed7 un1 un2 un3 un4 un5 un6 wiK;dsimp only
 cases h1:decide (c.sk< -1)with
 |true=>
  simp only[Bool.true_or,Bool.or_true,cond_true];generalize(c.opt&& !(c.k==1||c.k==8)||c.ds&& !(c.k==3||c.k==4))=a1;generalize(decide (c.ps.length>0) && !(c.k==1||(c.k==5||c.k==6))||decide (c.wh.length>0) && !(c.k==1||c.k==3))=a2;generalize(!(c.k==2) &&(!(cq3 c.e)|| !(s0B c.nm))|| !(c.k==3||c.k==4) &&(decide (c.it.length>0)||decide (c.od.length>0)))=a3
  cases a1<;>cases a2<;>cases a3<;>rfl
 |false=>
  cases h2:decide (c.lm< -1)with
  |true=>
   simp only[Bool.true_or,Bool.or_true,cond_true];generalize(c.opt&& !(c.k==1||c.k==8)||c.ds&& !(c.k==3||c.k==4))=a1;generalize(decide (c.ps.length>0) && !(c.k==1||(c.k==5||c.k==6))||decide (c.wh.length>0) && !(c.k==1||c.k==3))=a2;generalize(!(c.k==2) &&(!(cq3 c.e)|| !(s0B c.nm))|| !(c.k==3||c.k==4) &&(decide (c.it.length>0)||decide (c.od.length>0)))=a3
   cases a1<;>cases a2<;>cases a3<;>rfl
  |false=>
   rw[ed8 h1 h2];simp only[ed9,ee0,bne];generalize decide (c.sk>1000000000000000)=q1;generalize decide (c.lm>1000000000000000)=q2;generalize decide (c.sk>0)=q3;generalize decide (c.lm>0)=q4;generalize decide (c.ps.length>0)=p1;generalize decide (c.wh.length>0)=p2;generalize decide (c.it.length>0)=p3;generalize decide (c.od.length>0)=p4;generalize decide (c.st.length>0)=p5;generalize decide (c.ns.length>0)=p6;generalize cq3 c.e=z;generalize s0B c.nm=z2;generalize c.opt=o;generalize c.ds=d
   have hk:∀k:Int,(k=1∨k=2∨k=3∨k=4∨k=5∨k=6∨k=7∨k=8)∨((k==1)=false∧(k==2)=false∧(k==3)=false∧(k==4)=false∧(k==5)=false∧(k==6)=false∧(k==7)=false∧(k==8)=false):=by
    intro k;simp;omega
   rcases hk c.k with h|⟨e1,e2,e3,e4,e5,e6,e7,e8⟩
   ·rcases h with e|e|e|e|e|e|e|e
    all_goals(rw[e])
    ·cases d<;>cases o<;>cases p1<;>cases p2<;>cases z<;>cases z2<;>cases p3<;>simp<;>ac_rfl
    ·cases d<;>cases o<;>cases p1<;>cases p2<;>cases z<;>cases z2<;>cases p3<;>simp<;>ac_rfl
    ·cases d<;>cases o<;>cases p1<;>cases p2<;>cases z<;>cases z2<;>cases p3<;>simp<;>ac_rfl
    ·cases d<;>cases o<;>cases p1<;>cases p2<;>cases z<;>cases z2<;>cases p3<;>simp<;>ac_rfl
    ·cases d<;>cases o<;>cases p1<;>cases p2<;>cases z<;>cases z2<;>cases p3<;>simp<;>ac_rfl
    ·cases d<;>cases o<;>cases p1<;>cases p2<;>cases z<;>cases z2<;>cases p3<;>simp<;>ac_rfl
    ·cases d<;>cases o<;>cases p1<;>cases p2<;>cases z<;>cases z2<;>cases p3<;>simp<;>ac_rfl
    ·cases d<;>cases o<;>cases p1<;>cases p2<;>cases z<;>cases z2<;>cases p3<;>simp<;>ac_rfl
   ·rw[e1,e2,e3,e4,e5,e6,e7,e8]
    cases d<;>cases o<;>cases p1<;>cases p2<;>cases z<;>cases z2<;>cases p3<;>simp<;>ac_rfl
attribute [local irreducible] Ev EvO EvS au8 an1 RGo SGo go
def str1(c:CL):Bool:=c.opt&& !(c.k==1||c.k==8)
def str2(c:CL):Bool:=c.ds&& !(c.k==3||c.k==4)
def str3(c:CL):Bool:=decide ((c.ps.length:Int)>0) && !(c.k==1||(c.k==5||c.k==6))
def str4(c:CL):Bool:=decide ((c.wh.length:Int)>0) && !(c.k==1||c.k==3)
def str5(c:CL):Bool:= !(c.k==2) &&(!(cq3 c.e)|| !(s0B c.nm))
def str6(c:CL):Bool:= !(c.k==3||c.k==4) &&(decide ((c.it.length:Int)>0)||decide ((c.od.length:Int)>0))
def str7(c:CL):Bool:= !(c.k==3||c.k==4) &&(!(cq4 c.sk)|| !(cq4 c.lm))
def str8(c:CL):Bool:=decide (c.sk< -1)||(decide (c.sk>1000000000000000)||(decide (c.lm< -1)||decide (c.lm>1000000000000000)))
def str9(c:CL):Bool:=decide ((c.st.length:Int)>0) && !(c.k==7)||decide ((c.ns.length:Int)>0) && !(c.k==8)
theorem ee2(c:CL):cq5 c=(str1 c||(str2 c||(str3 c||(str4 c||(str5 c||(str6 c||(str7 c||(str8 c||str9 c)))))))):=by
 unfold cq5 str1 str2 str3 str4 str5 str6 str7 str8 str9;dsimp only;simp only[ed9];generalize(c.opt&& !(c.k==1||c.k==8))=a1;generalize(c.ds&& !(c.k==3||c.k==4))=a2;generalize(decide (c.ps.length>0) && !(c.k==1||(c.k==5||c.k==6)))=a3;generalize(decide (c.wh.length>0) && !(c.k==1||c.k==3))=a4;generalize(!(c.k==2) &&(!(cq3 c.e)|| !(s0B c.nm)))=a5;generalize(!(c.k==3||c.k==4) &&(decide (c.it.length>0)||decide (c.od.length>0)))=a6;generalize(!(c.k==3||c.k==4) &&(!(cq4 c.sk)|| !(cq4 c.lm)))=a7;generalize(decide (c.sk< -1)||(decide (c.sk>1000000000000000)||(decide (c.lm< -1)||decide (c.lm>1000000000000000))))=a8
 cases a1<;>cases a2<;>cases a3<;>cases a4<;>cases a5<;>cases a6<;>cases a7<;>cases a8<;>rfl
theorem ee3(c:CL)(l:List Int)(b:Bool)(h:(l.any fun y=>c.k==y)=b):EvS E 190 [.d (.sl (l.map D.int)),.ptr 0 0] [oCL c] (.d (.bool b)) [oCL c]:=by
 have:=ed2 c l;rw[h]at this;exact this
set_option maxHeartbeats 8000000 in
theorem ee4(c:CL):Ev E 123 [co6 c] (.d (.bool (cq5 c))):=by
 have l2:(by0 c.wh).length=c.wh.length:=by
  generalize c.wh=wh
  induction wh with
  |nil=>rfl
  |cons x r ih=>simp[by0,ih]
 have hz:=ds3 c.e;have ha:=ds5 c.sk;have hb:=ds5 c.lm;rw[ee2];obtain⟨w,hw⟩:∃b,(c.k==3||c.k==4)=b:=⟨_,rfl⟩;have s0:=ee3 c [3,4] w (by rw[←hw];simp);have s1:=ee3 c [1,8] (c.k==1||c.k==8) Oc;have s2:=ee3 c [1,5,6] (c.k==1||(c.k==5||c.k==6)) Oc;have s3:=ee3 c [1,3] (c.k==1||c.k==3) Oc;have s4:=ee3 c [2] (c.k==2) Oc;have s5:=ee3 c [7] (c.k==7) Oc;have s6:=ee3 c [8] (c.k==8) Oc;obtain⟨v1,h1⟩:∃b,str1 c=b:=⟨_,rfl⟩;obtain⟨v2,h2⟩:∃b,str2 c=b:=⟨_,rfl⟩;obtain⟨v3,h3⟩:∃b,str3 c=b:=⟨_,rfl⟩;obtain⟨v4,h4⟩:∃b,str4 c=b:=⟨_,rfl⟩;obtain⟨v5,h5⟩:∃b,str5 c=b:=⟨_,rfl⟩;obtain⟨v6,h6⟩:∃b,str6 c=b:=⟨_,rfl⟩;obtain⟨v7,h7⟩:∃b,str7 c=b:=⟨_,rfl⟩;obtain⟨v8,h8⟩:∃b,str8 c=b:=⟨_,rfl⟩;obtain⟨v9,h9⟩:∃b,str9 c=b:=⟨_,rfl⟩;rw[h1,h2,h3,h4,h5,h6,h7,h8,h9];unfold str1 at h1;unfold str2 at h2;unfold str3 at h3;unfold str4 at h4;unfold str5 at h5;unfold str6 at h6;unfold str7 at h7;unfold str8 at h8;unfold str9 at h9;rw[hw]at h2 h6 h7;obtain⟨k,opt,ds,ps,wh,e,nm,it,od,sk,lm,st,ns⟩:=c;dsimp only at l2 hz ha hb h1 h2 h3 h4 h5 h6 h7 h8 h9 hw s0 s1 s2 s3 s4 s5 s6;have l1:(ps.map co2).length=ps.length:=Oc
 have l3:(it.map co3).length=it.length:=Oc
 have l4:(od.map co4).length=od.length:=Oc
 have l5:(st.map co5).length=st.length:=Oc
 have l6:(ns.map D.str).length=ns.length:=Oc
 have hs:s0B nm=(nm.toList==(⟨#[]⟩:ByteArray).toList):=rfl;obtain⟨z,hzz⟩:∃b,cq3 e=b:=⟨_,rfl⟩;obtain⟨z1,hz1⟩:∃b,cq4 sk=b:=⟨_,rfl⟩;obtain⟨z2,hz2⟩:∃b,cq4 lm=b:=⟨_,rfl⟩;rw[hzz]at hz h5;rw[hs]at h5;rw[hz1]at ha h7;rw[hz2]at hb h7;clear hs hzz hz1 hz2 hw;rw[←l1]at h3;rw[←l2]at h4;rw[←l3,←l4]at h6;rw[←l5,←l6]at h9;clear l1 l2 l3 l4 l5 l6;generalize(k==1||k==8)=k1 at*;generalize(k==1||(k==5||k==6))=k2 at*;generalize(k==1||k==3)=k3 at*;generalize(k==2)=k4 at*;generalize(k==7)=k5 at*;generalize(k==8)=k6 at*;refine ye1 func123 ntmps123 fun _ _ _=>?_
 repeat'(first|refine bd3 3 (fun b=>⟨[(9,.d (.bool b)),(1,.ptr 0 0),(3,.clo 190 [.ptr 0 0]),(4,.d (.bool w))],[oCL ⟨k,opt,ds,ps,wh,e,nm,it,od,sk,lm,st,ns⟩]⟩) (v1) ?_ ?_|refine bd3 4 (fun b=>⟨[(9,.d (.bool b)),(1,.ptr 0 0),(3,.clo 190 [.ptr 0 0]),(4,.d (.bool w))],[oCL ⟨k,opt,ds,ps,wh,e,nm,it,od,sk,lm,st,ns⟩]⟩) (v2) ?_ ?_|refine bd3 6 (fun b=>⟨[(24,.d (.bool b)),(1,.ptr 0 0),(3,.clo 190 [.ptr 0 0]),(4,.d (.bool w))],[oCL ⟨k,opt,ds,ps,wh,e,nm,it,od,sk,lm,st,ns⟩]⟩) (v3) ?_ ?_|refine bd3 7 (fun b=>⟨[(24,.d (.bool b)),(1,.ptr 0 0),(3,.clo 190 [.ptr 0 0]),(4,.d (.bool w))],[oCL ⟨k,opt,ds,ps,wh,e,nm,it,od,sk,lm,st,ns⟩]⟩) (v4) ?_ ?_|refine bd3 9 (fun b=>⟨[(45,.d (.bool b)),(1,.ptr 0 0),(3,.clo 190 [.ptr 0 0]),(4,.d (.bool w))],[oCL ⟨k,opt,ds,ps,wh,e,nm,it,od,sk,lm,st,ns⟩]⟩) (v5) ?_ ?_|refine bd3 10 (fun b=>⟨[(45,.d (.bool b)),(1,.ptr 0 0),(3,.clo 190 [.ptr 0 0]),(4,.d (.bool w))],[oCL ⟨k,opt,ds,ps,wh,e,nm,it,od,sk,lm,st,ns⟩]⟩) (v6) ?_ ?_|refine bd3 12 (fun b=>⟨[(75,.d (.bool b)),(1,.ptr 0 0),(3,.clo 190 [.ptr 0 0]),(4,.d (.bool w))],[oCL ⟨k,opt,ds,ps,wh,e,nm,it,od,sk,lm,st,ns⟩]⟩) (v7) ?_ ?_|refine bd3 13 (fun b=>⟨[(75,.d (.bool b)),(1,.ptr 0 0),(3,.clo 190 [.ptr 0 0]),(4,.d (.bool w))],[oCL ⟨k,opt,ds,ps,wh,e,nm,it,od,sk,lm,st,ns⟩]⟩) (v8) ?_ ?_|refine yz ?_|refine ba6 rfl rfl rfl rfl rfl ?_|refine ba7 [0] rfl rfl rfl rfl (FnX.clo _ _) bq7 (s0) rfl rfl rfl rfl rfl ?_|refine ba7 [0] rfl rfl rfl rfl (FnX.clo _ _) bq7 (s1) rfl rfl rfl rfl rfl ?_|refine ba7 [0] rfl rfl rfl rfl (FnX.clo _ _) bq7 (s2) rfl rfl rfl rfl rfl ?_|refine ba7 [0] rfl rfl rfl rfl (FnX.clo _ _) bq7 (s3) rfl rfl rfl rfl rfl ?_|refine ba7 [0] rfl rfl rfl rfl (FnX.clo _ _) bq7 (s4) rfl rfl rfl rfl rfl ?_|refine ba7 [0] rfl rfl rfl rfl (FnX.clo _ _) bq7 (s5) rfl rfl rfl rfl rfl ?_|refine ba7 [0] rfl rfl rfl rfl (FnX.clo _ _) bq7 (s6) rfl rfl rfl rfl rfl ?_|refine yp b192 hz ?_|refine qP (d:=81) rfl rfl rfl rfl rfl rfl b193 (ha) ?_|refine qP (d:=86) rfl rfl rfl rfl rfl rfl b193 (hb) ?_|refine ac1 ⟨_,?_,(zle 1)⟩|refine yx ?_|(refine yy ?_ ?_<;>intro _)|(refine qV rfl ?_ ?_<;>intro _)|exact zD|exact zL)
 all_goals clear hz ha hb s0 s1 s2 s3 s4 s5 s6
 any_goals(refine Eq.trans ?_ h1;clear h2 h3 h4 h5 h6 h7 h8 h9;simp_all;done)
 any_goals(refine Eq.trans ?_ h2;clear h1 h3 h4 h5 h6 h7 h8 h9;simp_all;done)
 any_goals(refine Eq.trans ?_ h3;clear h1 h2 h4 h5 h6 h7 h8 h9;simp_all;done)
 any_goals(refine Eq.trans ?_ h4;clear h1 h2 h3 h5 h6 h7 h8 h9;simp_all;done)
 any_goals(refine Eq.trans ?_ h5;clear h1 h2 h3 h4 h6 h7 h8 h9;simp_all;done)
 any_goals(refine Eq.trans ?_ h6;clear h1 h2 h3 h4 h5 h7 h8 h9;simp_all;done)
 any_goals(refine Eq.trans ?_ h7;clear h1 h2 h3 h4 h5 h6 h8 h9;simp_all;done)
 any_goals(refine Eq.trans ?_ h8;clear h1 h2 h3 h4 h5 h6 h7 h9;simp_all;done)
 any_goals(refine Eq.trans ?_ h8;clear h1 h2 h3 h4 h5 h6 h7 h9;clear h8;dsimp only at*;simp only[cond_false]at*;simp only[*,fm9];done)
 all_goals(refine congrArg D.bool ?_;clear h1 h2 h3 h4 h5 h6 h7 h8;simp_all)
end Go.Proofs.YtndgolmgaenlfaaGreatDoor
namespace Go.Abs
theorem Le.recell{C:Cx}{tm:List (Nat × X)}{ob ob':List aa5}(hl:ob.length=ob'.length)(h:∀(i:Nat) (x y:aa5),ob[i]? =some x→ob'[i]? =some y→x=y∨∃ty a b,x=.var ty a∧y=.var ty b∧a.cells=b.cells):Le C ⟨tm,ob⟩ ⟨tm,ob'⟩:=by
 rintro a w ⟨F,σ,h1,h2,h3,hi,h4,h5,hs⟩
 have hget:∀(i:Nat) (y:aa5),ob'[i]? =some y→∃x,ob[i]? =some x∧(x=y∨∃ty a b,x=.var ty a∧y=.var ty b∧a.cells=b.cells):=by
  intro i y hy;have hlt:i<ob.length:=by rw[hl];exact(fk2.1 hy).1
  exact⟨_,fj7 hlt,h i _ y (fj7 hlt) hy⟩
 have hlive:∀x y:aa5,(x=y∨∃ty a b,x=.var ty a∧y=.var ty b∧a.cells=b.cells)→y.live=true→x.live=true:=by
  rintro x y (rfl|⟨ty,a,b,rfl,rfl,-⟩) hy
  ·exact hy
  ·rfl
 refine⟨F,σ,h1,h2,h3,⟨hi.flt,hi.glob,hi.len.trans hl,fun o x p hx hp=>?_,fun o o' x x' p p' hne hx hlx hx' hlx' hp hp'=>?_,hi.pre⟩,h4,h5,hs⟩
 ·obtain⟨x0,hx0,e⟩:=hget o x hx;rcases e with rfl|⟨ty,a,b,rfl,rfl,hc⟩
  ·exact hi.obs o x0 p hx0 hp
  ·have hob:=hi.obs o _ p hx0 hp;obtain⟨pb,pc,pn⟩:=p;obtain⟨vs,q1,q2,q3,q4,q5⟩:=hob;exact⟨vs,q1,by rw[←hc];exact q2,q3,fun i x v hx=>q4 i x v (by rw[hc];exact hx),q5⟩
 ·obtain⟨x0,hx0,e⟩:=hget o x hx;obtain⟨x1,hx1,e'⟩:=hget o' x' hx';exact hi.inj o o' x0 x1 p p' hne hx0 (hlive _ _ e hlx) hx1 (hlive _ _ e' hlx') hp hp'
end Go.Abs
namespace Go.Proofs.YtndgolmgaenlfaaGreatDoor
set_option maxRecDepth 4000
open Go Go.Abs Go.Val Go.RowKit Go.Proofs.Tryz
attribute [local irreducible] go SGo an1 Ev au8 EvO EvS RGo
abbrev oLT(a:Int):aa5:=.var 164 (.w (.d (.int a)))
theorem ee5(a e:Int):EvS E 125 [.ptr 0 0,.d (.int e)] [oLT a] (.tup []) [oLT (adI a e)]:=by
 have h:=ed3 true a e;have e1:adB true a=true:=by unfold adB;cases a==0<;>rfl
 rw[e1]at h;exact h
theorem ee6(a:Int)(s:ByteArray):EvS E 127 [.ptr 0 0,.d (.str s)] [oLT a] (.tup []) [oLT (adI a (cq9 s))]:=by
 have h:=ed4 true a s;have e1:neB true a s=true:=by unfold neB adB;cases cm2 s<;>cases a==0<;>rfl
 rw[e1]at h;exact h
theorem oLi_w(c:aa5):∀(i:Nat) (x y:aa5),[c,oLi false 0][i]? =some x→[c,oLT 0][i]? =some y→x=y∨∃ty a b,x=.var ty a∧y=.var ty b∧a.cells=b.cells
 |0,x,y,hx,hy=>by cases hx;cases hy;exact .inl rfl
 |1,x,y,hx,hy=>by cases hx;cases hy;exact .inr ⟨_,_,_,rfl,rfl,rfl⟩
 |i+2,x,y,hx,hy=>by cases hx
structure OkC(c:CL):Prop where
 p:∀p∈c.ps,OkPA p
 w:∀e∈c.wh,dp5 e
 e:dp5 c.e
 i:∀x∈c.it,dp5 x.e
 o:∀x∈c.od,dp5 x.e
 s:∀x∈c.st,dp5 x.e
theorem ee7:∀(l:List Int) (a:Int),l.foldl adI a=bif a !=0 then a else cq8 l
 |[],a=>by
  rw[fq4,cq8]
  cases h:a !=0 with
  |true=>rfl
  |false=>simpa using h
 |x::r,a=>by
  rw[fo0,ee7 r,cq8];unfold adI
  cases h:a==0 with
  |true=>
   have e:a=0:=by simpa using h
   subst e;rfl
  |false=>
   have e:(a !=0)=true:=by unfold bne;rw[h];rfl
   rw[cond_false,e,cond_true,cond_true]
theorem ee8(x y:List Int):(x++y).foldl adI 0=y.foldl adI (x.foldl adI 0):=List.foldl_append
theorem ee9{α:Type}(f:α→List Int):∀(l:List α) (a:Int),(l.flatMap f).foldl adI a=l.foldl (fun a x=>(f x).foldl adI a) a
 |[],a=>rfl
 |x::r,a=>by rw[fm6,List.foldl_append,ee9 f r,fo0]
structure SLi{α:Type}(l:List α)(f:Int→α→Int)(a0:Int) where
 i:Nat
 hi:i≤l.length
 a:Int
 ok:l.foldl f a0=(l.drop i).foldl f a
def t1F(c:CL):Int→PA→Int:=fun a x=>adI a (cq2 x (c.k==5))
def t2F:Int→Ex→Int:=fun a x=>adI a (cn6 x)
def t3F:Int→IT→Int:=fun a x=>adI (adI a (cn6 x.e)) (cq9 x.asn)
def t4F:Int→SK→Int:=fun a x=>adI a (cn6 x.e)
def t5F:Int→SIt→Int:=fun a x=>adI a (cq7 x)
def t6F:Int→ByteArray→Int:=fun a x=>adI a (cq9 x)
def a2F(c:CL):Int:=c.wh.foldl t2F (c.ps.foldl (t1F c) 0)
def a3F(c:CL):Int:=bif c.k==2 then adI (adI (a2F c) (cn6 c.e)) (cq9 c.nm)else a2F c
def a7F(c:CL):Int:=c.ns.foldl t6F (c.st.foldl t5F (c.od.foldl t4F (c.it.foldl t3F (a3F c))))
theorem ef0(c:CL):a7F c=cq8 (c.ps.map (fun p=>cq2 p (c.k==5))++c.wh.map cn6++(bif c.k==2 then [cn6 c.e,cq9 c.nm]else [])++c.it.flatMap (fun x=>[cn6 x.e,cq9 x.asn])++c.od.map (fun x=>cn6 x.e)++c.st.map cq7++c.ns.map cq9):=by
 have h:=ee7 (c.ps.map (fun p=>cq2 p (c.k==5))++c.wh.map cn6++(bif c.k==2 then [cn6 c.e,cq9 c.nm]else [])++c.it.flatMap (fun x=>[cn6 x.e,cq9 x.asn])++c.od.map (fun x=>cn6 x.e)++c.st.map cq7++c.ns.map cq9) 0;rw[show((0:Int) !=0)=false from rfl,cond_false]at h;rw[←h,ee8,ee8,ee8,ee8,ee8,ee8,ee9];simp only[List.foldl_map];unfold a7F a3F a2F
 cases c.k==2<;>rfl
theorem ef1(c:CL)(h1:((decide (c.k<1)||decide (c.k>8))||cq5 c)=false)(h2:cq6 c=false):cr0 c=a7F c:=by
 rw[ef0];unfold cr0;rw[h1,h2];rfl
set_option maxHeartbeats 8000000 in
theorem ef2(c:CL)(hok:OkC c):Ev E 64 [co6 c] (.d (.int (cr0 c))):=Ev.fit fun hfit=>by
 have hst:=ee4 c;have hcr:=ec9 c
 cases c0:(decide (c.k<1)||decide (c.k>8))with
 |true=>
  have e:cr0 c=1:=by unfold cr0;rw[c0];rfl
  rw[e];obtain⟨k,opt,ds,ps,wh,e,nm,it,od,sk,lm,st,ns⟩:=c;dsimp only at c0;clear hst hcr hok hfit;have c0':=c0;rw[fn3]at c0'
  cases c2:decide (k<1)with
  |true=>
   refine ye1 func64 ntmps64 fun _ _ _=>?_
   exact Ok
  |false=>
   have c3:decide (k>8)=true:=by rw[c2]at c0;simpa using c0
   refine ye1 func64 ntmps64 fun _ _ _=>?_
   exact Ok
 |false=>
  cases c1:cq5 c with
  |true=>
   have e:cr0 c=1:=by unfold cr0;rw[c0,c1];rfl
   rw[e];rw[c1]at hst;obtain⟨k,opt,ds,ps,wh,e,nm,it,od,sk,lm,st,ns⟩:=c;dsimp only at c0;rw[fn9]at c0;obtain⟨c2,c3⟩:=c0;refine ye1 func64 ntmps64 fun _ _ _=>?_
   repeat'(first|refine yz ?_|refine yp b123 hst ?_|refine yx ?_|(refine yy ?_ ?_<;>intro _)|exact zD|exact zL)
  |false=>
   cases c4:cq6 c with
   |true=>
    have e:cr0 c=4:=by unfold cr0;rw[c0,c1,c4];rfl
    rw[e];rw[c1]at hst;rw[c4]at hcr;obtain⟨k,opt,ds,ps,wh,e,nm,it,od,sk,lm,st,ns⟩:=c;dsimp only at c0;rw[fn9]at c0;obtain⟨c2,c3⟩:=c0;refine ye1 func64 ntmps64 fun _ _ _=>?_
    repeat'(first|refine yz ?_|refine yp b123 hst ?_|refine yp b124 hcr ?_|refine yx ?_|(refine yy ?_ ?_<;>intro _)|exact zD|exact zL)
   |false=>
    rw[ef1 c (by rw[c0,c1];rfl) c4];rw[c1]at hst;rw[c4]at hcr;rw[fn9]at c0;obtain⟨c2,c3⟩:=c0;have hkp:=hok.p;have hkw:=hok.w;have hke:=hok.e;have hki:=hok.i;have hko:=hok.o;have hks:=hok.s;have hft:=hfit (co6 c) Oc;have m1:=(ct4 (hft.aggs (.sl (c.ps.map co2)) Oc)).1;have m2:=(by9 (hft.aggs (.sl (by0 c.wh)) Oc)).1;have m3:=(ct4 (hft.aggs (.sl (c.it.map co3)) Oc)).1;have m4:=(ct4 (hft.aggs (.sl (c.od.map co4)) Oc)).1;have m5:=(ct4 (hft.aggs (.sl (c.st.map co5)) Oc)).1;have m6:=(ct4 (hft.aggs (.sl (c.ns.map D.str)) Oc)).1;clear hft;have l1:(c.ps.map co2).length=c.ps.length:=Oc
    have l2:(by0 c.wh).length=c.wh.length:=by7 _;have l3:(c.it.map co3).length=c.it.length:=Oc
    have l4:(c.od.map co4).length=c.od.length:=Oc
    have l5:(c.st.map co5).length=c.st.length:=Oc
    have l6:(c.ns.map D.str).length=c.ns.length:=Oc
    obtain⟨f1,hf1⟩:∃f,t1F c=f:=⟨_,rfl⟩;have hf1':∀a x,f1 a x=adI a (cq2 x (c.k==5)):=by intro a x;rw[←hf1];rfl
    have hgoal:a7F c=c.ns.foldl t6F (c.st.foldl t5F (c.od.foldl t4F (c.it.foldl t3F (bif c.k==2 then adI (adI (c.wh.foldl t2F (c.ps.foldl f1 0)) (cn6 c.e)) (cq9 c.nm)else(c.wh.foldl t2F (c.ps.foldl f1 0)))))):=by rw[←hf1];rfl
    rw[hgoal];clear hf1 hgoal hok c1 c4 hfit;obtain⟨k,opt,ds,ps,wh,e,nm,it,od,sk,lm,st,ns⟩:=c;dsimp only at*;refine ye1 func64 ntmps64 fun _ _ _=>?_
    repeat'(first|refine yz ?_|refine yp b123 hst ?_|refine yp b124 hcr ?_|refine yx ?_|(refine yy ?_ ?_<;>intro _)|exact zD|exact zL)
    clear hst hcr;refine ac7 (α:=SLi ps f1 0) (fun p=>⟨[(1,.ptr 0 0),(3,.ptr 1 0),(31,.d (.sl (ps.map co2))),(32,.d (.int (ps.map co2).length)),(33,.d (.int p.i))],[oCL ⟨k,opt,ds,ps,wh,e,nm,it,od,sk,lm,st,ns⟩,oLT p.a]⟩) (fun p=>ps.length-p.i) ⟨0,by omega,0,rfl⟩ (Le.trans (b:=⟨[(1,.ptr 0 0),(3,.ptr 1 0),(31,.d (.sl (ps.map co2))),(32,.d (.int (ps.map co2).length)),(33,.d (.int 0))],[oCL ⟨k,opt,ds,ps,wh,e,nm,it,od,sk,lm,st,ns⟩,oLi false 0]⟩) (zle 2) (Le.recell rfl (oLi_w _))) ?_;rintro⟨i,hi,a,ok⟩;dsimp only at ok ⊢;rcases fj8 i ps.length with hlt|hge
    ·have g1:decide ((i:Int)<((ps.map co2).length:Int))=true:=by rw[l1];simpa using hlt
     have hx0:=fj7 hlt;generalize ps[i]=x at hx0;have hx:=ct3 (f:=co2) hx0;have hm:=fj9 hx0;rw[ct2 hx0,fo0]at ok;have h1:=dq1 x (k==5) (hkp x hm);have h2:=ee5 a (cq2 x (k==5));rw[hf1']at ok
     repeat'(first|refine yz ?_|refine yi (co2 x) hx ?_|refine yp b126 h1 ?_|refine yc [1] bp3 (h2) ?_|refine yx ?_|(refine yy ?_ ?_<;>intro _)|exact zD|exact zL)
     refine ac1 ?_;exact⟨⟨i+1,by omega,_,ok⟩,by dsimp only;omega,(zle 2)⟩
    ·have g1:decide ((i:Int)<((ps.map co2).length:Int))=false:=by rw[l1];simp;omega
     rw[fk5 hge,fq4]at ok;rw[ok];clear ok hi hge;revert a;intro a1
     repeat'(first|refine yz ?_|refine yx ?_|(refine yy ?_ ?_<;>intro _)|exact zD|exact zL)
     refine ac7 (α:=SLi wh t2F a1) (fun p=>⟨[(1,.ptr 0 0),(3,.ptr 1 0),(45,.d (.sl (by0 wh))),(46,.d (.int (by0 wh).length)),(47,.d (.int p.i))],[oCL ⟨k,opt,ds,ps,wh,e,nm,it,od,sk,lm,st,ns⟩,oLT p.a]⟩) (fun p=>wh.length-p.i) ⟨0,by omega,a1,rfl⟩ (zle 2) ?_;rintro⟨i,hi,a,ok⟩;dsimp only at ok ⊢;rcases fj8 i wh.length with hlt|hge
     ·have g1:decide ((i:Int)<((by0 wh).length:Int))=true:=by rw[l2];simpa using hlt
      have hx0:=fj7 hlt;generalize wh[i]=x at hx0;have hx:=by have:=by5 hx0;exact(show(by0 wh)[((i:Nat):Int).toNat]? =some (by1 x) by rw[fm2];exact this)
      have hm:=fj9 hx0;rw[ct2 hx0,fo0]at ok;have h1:=cn7 x (hkw x hm).1 (hkw x hm).2;have h2:=ee5 a (cn6 x)
      repeat'(first|refine yz ?_|refine yi (by1 x) hx ?_|refine yp b61 h1 ?_|refine yc [1] bp3 (h2) ?_|refine yx ?_|(refine yy ?_ ?_<;>intro _)|exact zD|exact zL)
      refine ac1 ?_;exact⟨⟨i+1,by omega,_,ok⟩,by dsimp only;omega,(zle 2)⟩
     ·have g1:decide ((i:Int)<((by0 wh).length:Int))=false:=by rw[l2];simp;omega
      rw[fk5 hge,fq4]at ok;rw[ok];clear ok hi hge;revert a;intro a2;have h8:=cn7 e hke.1 hke.2;have h9:=ee5 a2 (cn6 e);have h10:=ee6 (adI a2 (cn6 e)) nm
      cases hk2:k==2 with
      |true=>
       rw[cond_true]
       repeat'(first|refine yz ?_|refine yp b61 h8 ?_|refine yc [1] bp3 (h9) ?_|refine yc [1] bp4 (h10) ?_|refine yx ?_|(refine yy ?_ ?_<;>intro _)|exact zD|exact zL)
       refine ac7 (α:=SLi it t3F (adI (adI a2 (cn6 e)) (cq9 nm))) (fun p=>⟨[(1,.ptr 0 0),(3,.ptr 1 0),(66,.d (.sl (it.map co3))),(67,.d (.int (it.map co3).length)),(68,.d (.int p.i))],[oCL ⟨k,opt,ds,ps,wh,e,nm,it,od,sk,lm,st,ns⟩,oLT p.a]⟩) (fun p=>it.length-p.i) ⟨0,by omega,(adI (adI a2 (cn6 e)) (cq9 nm)),rfl⟩ (zle 2) ?_;rintro⟨i,hi,a,ok⟩;dsimp only at ok ⊢;rcases fj8 i it.length with hlt|hge
       ·have g1:decide ((i:Int)<((it.map co3).length:Int))=true:=by rw[l3];simpa using hlt
        have hx0:=fj7 hlt;generalize it[i]=x at hx0;have hx:=ct3 (f:=co3) hx0;have hm:=fj9 hx0;rw[ct2 hx0,fo0]at ok;have h1:=cn7 x.e (hki x hm).1 (hki x hm).2;have h2:=ee5 a (cn6 x.e);have h3:=ee6 (adI a (cn6 x.e)) x.asn
        repeat'(first|refine yz ?_|refine yi (co3 x) hx ?_|refine bj7 rfl rfl rfl rfl rfl rfl rfl ?_|refine bj8 9 rfl rfl rfl rfl rfl rfl ?_|refine yp b61 h1 ?_|refine yc [1] bp3 (h2) ?_|refine yc [1] bp4 (h3) ?_|refine yx ?_|(refine yy ?_ ?_<;>intro _)|exact zD|exact zL)
        refine ac1 ?_;exact⟨⟨i+1,by omega,_,ok⟩,by dsimp only;omega,(zle 2)⟩
       ·have g1:decide ((i:Int)<((it.map co3).length:Int))=false:=by rw[l3];simp;omega
        rw[fk5 hge,fq4]at ok;rw[ok];clear ok hi hge;revert a;intro a4
        repeat'(first|refine yz ?_|refine yx ?_|(refine yy ?_ ?_<;>intro _)|exact zD|exact zL)
        refine ac7 (α:=SLi od t4F a4) (fun p=>⟨[(1,.ptr 0 0),(3,.ptr 1 0),(81,.d (.sl (od.map co4))),(82,.d (.int (od.map co4).length)),(83,.d (.int p.i))],[oCL ⟨k,opt,ds,ps,wh,e,nm,it,od,sk,lm,st,ns⟩,oLT p.a]⟩) (fun p=>od.length-p.i) ⟨0,by omega,a4,rfl⟩ (zle 2) ?_;rintro⟨i,hi,a,ok⟩;dsimp only at ok ⊢;rcases fj8 i od.length with hlt|hge
        ·have g1:decide ((i:Int)<((od.map co4).length:Int))=true:=by rw[l4];simpa using hlt
         have hx0:=fj7 hlt;generalize od[i]=x at hx0;have hx:=ct3 (f:=co4) hx0;have hm:=fj9 hx0;rw[ct2 hx0,fo0]at ok;have h1:=cn7 x.e (hko x hm).1 (hko x hm).2;have h2:=ee5 a (cn6 x.e)
         repeat'(first|refine yz ?_|refine yi (co4 x) hx ?_|refine bj7 rfl rfl rfl rfl rfl rfl rfl ?_|refine bj8 9 rfl rfl rfl rfl rfl rfl ?_|refine yp b61 h1 ?_|refine yc [1] bp3 (h2) ?_|refine yx ?_|(refine yy ?_ ?_<;>intro _)|exact zD|exact zL)
         refine ac1 ?_;exact⟨⟨i+1,by omega,_,ok⟩,by dsimp only;omega,(zle 2)⟩
        ·have g1:decide ((i:Int)<((od.map co4).length:Int))=false:=by rw[l4];simp;omega
         rw[fk5 hge,fq4]at ok;rw[ok];clear ok hi hge;revert a;intro a5
         repeat'(first|refine yz ?_|refine yx ?_|(refine yy ?_ ?_<;>intro _)|exact zD|exact zL)
         refine ac7 (α:=SLi st t5F a5) (fun p=>⟨[(1,.ptr 0 0),(3,.ptr 1 0),(93,.d (.sl (st.map co5))),(94,.d (.int (st.map co5).length)),(95,.d (.int p.i))],[oCL ⟨k,opt,ds,ps,wh,e,nm,it,od,sk,lm,st,ns⟩,oLT p.a]⟩) (fun p=>st.length-p.i) ⟨0,by omega,a5,rfl⟩ (zle 2) ?_;rintro⟨i,hi,a,ok⟩;dsimp only at ok ⊢;rcases fj8 i st.length with hlt|hge
         ·have g1:decide ((i:Int)<((st.map co5).length:Int))=true:=by rw[l5];simpa using hlt
          have hx0:=fj7 hlt;generalize st[i]=x at hx0;have hx:=ct3 (f:=co5) hx0;have hm:=fj9 hx0;rw[ct2 hx0,fo0]at ok;have h1:=ec7 x (hks x hm);have h2:=ee5 a (cq7 x)
          repeat'(first|refine yz ?_|refine yi (co5 x) hx ?_|refine yp b128 h1 ?_|refine yc [1] bp3 (h2) ?_|refine yx ?_|(refine yy ?_ ?_<;>intro _)|exact zD|exact zL)
          refine ac1 ?_;exact⟨⟨i+1,by omega,_,ok⟩,by dsimp only;omega,(zle 2)⟩
         ·have g1:decide ((i:Int)<((st.map co5).length:Int))=false:=by rw[l5];simp;omega
          rw[fk5 hge,fq4]at ok;rw[ok];clear ok hi hge;revert a;intro a6
          repeat'(first|refine yz ?_|refine yx ?_|(refine yy ?_ ?_<;>intro _)|exact zD|exact zL)
          refine ac7 (α:=SLi ns t6F a6) (fun p=>⟨[(1,.ptr 0 0),(3,.ptr 1 0),(104,.d (.sl (ns.map D.str))),(105,.d (.int (ns.map D.str).length)),(106,.d (.int p.i))],[oCL ⟨k,opt,ds,ps,wh,e,nm,it,od,sk,lm,st,ns⟩,oLT p.a]⟩) (fun p=>ns.length-p.i) ⟨0,by omega,a6,rfl⟩ (zle 2) ?_;rintro⟨i,hi,a,ok⟩;dsimp only at ok ⊢;rcases fj8 i ns.length with hlt|hge
          ·have g1:decide ((i:Int)<((ns.map D.str).length:Int))=true:=by rw[l6];simpa using hlt
           have hx0:=fj7 hlt;generalize ns[i]=x at hx0;have hx:=ct3 (f:=D.str) hx0;have hm:=fj9 hx0;rw[ct2 hx0,fo0]at ok;have h3:=ee6 a x
           repeat'(first|refine yz ?_|refine yi (.str x) hx ?_|refine yc [1] bp4 (h3) ?_|refine yx ?_|(refine yy ?_ ?_<;>intro _)|exact zD|exact zL)
           refine ac1 ?_;exact⟨⟨i+1,by omega,_,ok⟩,by dsimp only;omega,(zle 2)⟩
          ·have g1:decide ((i:Int)<((ns.map D.str).length:Int))=false:=by rw[l6];simp;omega
           rw[fk5 hge,fq4]at ok;rw[ok];clear ok hi hge;revert a;intro a7
           exact Ok
      |false=>
       rw[cond_false]
       repeat'(first|refine yz ?_|refine yx ?_|(refine yy ?_ ?_<;>intro _)|exact zD|exact zL)
       refine ac7 (α:=SLi it t3F a2) (fun p=>⟨[(1,.ptr 0 0),(3,.ptr 1 0),(66,.d (.sl (it.map co3))),(67,.d (.int (it.map co3).length)),(68,.d (.int p.i))],[oCL ⟨k,opt,ds,ps,wh,e,nm,it,od,sk,lm,st,ns⟩,oLT p.a]⟩) (fun p=>it.length-p.i) ⟨0,by omega,a2,rfl⟩ (zle 2) ?_;rintro⟨i,hi,a,ok⟩;dsimp only at ok ⊢;rcases fj8 i it.length with hlt|hge
       ·have g1:decide ((i:Int)<((it.map co3).length:Int))=true:=by rw[l3];simpa using hlt
        have hx0:=fj7 hlt;generalize it[i]=x at hx0;have hx:=ct3 (f:=co3) hx0;have hm:=fj9 hx0;rw[ct2 hx0,fo0]at ok;have h1:=cn7 x.e (hki x hm).1 (hki x hm).2;have h2:=ee5 a (cn6 x.e);have h3:=ee6 (adI a (cn6 x.e)) x.asn
        repeat'(first|refine yz ?_|refine yi (co3 x) hx ?_|refine bj7 rfl rfl rfl rfl rfl rfl rfl ?_|refine bj8 9 rfl rfl rfl rfl rfl rfl ?_|refine yp b61 h1 ?_|refine yc [1] bp3 (h2) ?_|refine yc [1] bp4 (h3) ?_|refine yx ?_|(refine yy ?_ ?_<;>intro _)|exact zD|exact zL)
        refine ac1 ?_;exact⟨⟨i+1,by omega,_,ok⟩,by dsimp only;omega,(zle 2)⟩
       ·have g1:decide ((i:Int)<((it.map co3).length:Int))=false:=by rw[l3];simp;omega
        rw[fk5 hge,fq4]at ok;rw[ok];clear ok hi hge;revert a;intro a4
        repeat'(first|refine yz ?_|refine yx ?_|(refine yy ?_ ?_<;>intro _)|exact zD|exact zL)
        refine ac7 (α:=SLi od t4F a4) (fun p=>⟨[(1,.ptr 0 0),(3,.ptr 1 0),(81,.d (.sl (od.map co4))),(82,.d (.int (od.map co4).length)),(83,.d (.int p.i))],[oCL ⟨k,opt,ds,ps,wh,e,nm,it,od,sk,lm,st,ns⟩,oLT p.a]⟩) (fun p=>od.length-p.i) ⟨0,by omega,a4,rfl⟩ (zle 2) ?_;rintro⟨i,hi,a,ok⟩;dsimp only at ok ⊢;rcases fj8 i od.length with hlt|hge
        ·have g1:decide ((i:Int)<((od.map co4).length:Int))=true:=by rw[l4];simpa using hlt
         have hx0:=fj7 hlt;generalize od[i]=x at hx0;have hx:=ct3 (f:=co4) hx0;have hm:=fj9 hx0;rw[ct2 hx0,fo0]at ok;have h1:=cn7 x.e (hko x hm).1 (hko x hm).2;have h2:=ee5 a (cn6 x.e)
         repeat'(first|refine yz ?_|refine yi (co4 x) hx ?_|refine bj7 rfl rfl rfl rfl rfl rfl rfl ?_|refine bj8 9 rfl rfl rfl rfl rfl rfl ?_|refine yp b61 h1 ?_|refine yc [1] bp3 (h2) ?_|refine yx ?_|(refine yy ?_ ?_<;>intro _)|exact zD|exact zL)
         refine ac1 ?_;exact⟨⟨i+1,by omega,_,ok⟩,by dsimp only;omega,(zle 2)⟩
        ·have g1:decide ((i:Int)<((od.map co4).length:Int))=false:=by rw[l4];simp;omega
         rw[fk5 hge,fq4]at ok;rw[ok];clear ok hi hge;revert a;intro a5
         repeat'(first|refine yz ?_|refine yx ?_|(refine yy ?_ ?_<;>intro _)|exact zD|exact zL)
         refine ac7 (α:=SLi st t5F a5) (fun p=>⟨[(1,.ptr 0 0),(3,.ptr 1 0),(93,.d (.sl (st.map co5))),(94,.d (.int (st.map co5).length)),(95,.d (.int p.i))],[oCL ⟨k,opt,ds,ps,wh,e,nm,it,od,sk,lm,st,ns⟩,oLT p.a]⟩) (fun p=>st.length-p.i) ⟨0,by omega,a5,rfl⟩ (zle 2) ?_;rintro⟨i,hi,a,ok⟩;dsimp only at ok ⊢;rcases fj8 i st.length with hlt|hge
         ·have g1:decide ((i:Int)<((st.map co5).length:Int))=true:=by rw[l5];simpa using hlt
          have hx0:=fj7 hlt;generalize st[i]=x at hx0;have hx:=ct3 (f:=co5) hx0;have hm:=fj9 hx0;rw[ct2 hx0,fo0]at ok;have h1:=ec7 x (hks x hm);have h2:=ee5 a (cq7 x)
          repeat'(first|refine yz ?_|refine yi (co5 x) hx ?_|refine yp b128 h1 ?_|refine yc [1] bp3 (h2) ?_|refine yx ?_|(refine yy ?_ ?_<;>intro _)|exact zD|exact zL)
          refine ac1 ?_;exact⟨⟨i+1,by omega,_,ok⟩,by dsimp only;omega,(zle 2)⟩
         ·have g1:decide ((i:Int)<((st.map co5).length:Int))=false:=by rw[l5];simp;omega
          rw[fk5 hge,fq4]at ok;rw[ok];clear ok hi hge;revert a;intro a6
          repeat'(first|refine yz ?_|refine yx ?_|(refine yy ?_ ?_<;>intro _)|exact zD|exact zL)
          refine ac7 (α:=SLi ns t6F a6) (fun p=>⟨[(1,.ptr 0 0),(3,.ptr 1 0),(104,.d (.sl (ns.map D.str))),(105,.d (.int (ns.map D.str).length)),(106,.d (.int p.i))],[oCL ⟨k,opt,ds,ps,wh,e,nm,it,od,sk,lm,st,ns⟩,oLT p.a]⟩) (fun p=>ns.length-p.i) ⟨0,by omega,a6,rfl⟩ (zle 2) ?_;rintro⟨i,hi,a,ok⟩;dsimp only at ok ⊢;rcases fj8 i ns.length with hlt|hge
          ·have g1:decide ((i:Int)<((ns.map D.str).length:Int))=true:=by rw[l6];simpa using hlt
           have hx0:=fj7 hlt;generalize ns[i]=x at hx0;have hx:=ct3 (f:=D.str) hx0;have hm:=fj9 hx0;rw[ct2 hx0,fo0]at ok;have h3:=ee6 a x
           repeat'(first|refine yz ?_|refine yi (.str x) hx ?_|refine yc [1] bp4 (h3) ?_|refine yx ?_|(refine yy ?_ ?_<;>intro _)|exact zD|exact zL)
           refine ac1 ?_;exact⟨⟨i+1,by omega,_,ok⟩,by dsimp only;omega,(zle 2)⟩
          ·have g1:decide ((i:Int)<((ns.map D.str).length:Int))=false:=by rw[l6];simp;omega
           rw[fk5 hge,fq4]at ok;rw[ok];clear ok hi hge;revert a;intro a7
           exact Ok
end Go.Proofs.YtndgolmgaenlfaaGreatDoor
