/- Assignments, and how many elements a clause's lists have, by both texts; How many elements a clause's lists have, by both texts; How many elements a c. Conditions: each part's own, as it says. -/
import Derived.Test.YtndgolmgaenlfaaGreatDoorCA
import Derived.Test.YtndgolmgaenlfaaGreatDoorGC
set_option linter.unusedVariables false
set_option linter.unusedSimpArgs false
namespace Go.Proofs.YtndgolmgaenlfaaGreatDoor
set_option maxRecDepth 4000
open Go Go.Abs Go.Val Go.RowKit Go.Proofs.Tryz
attribute [local irreducible] go SGo an9 Ev aw1 EvO EvS RGo
theorem ed5(x:SIt)(he:ds7 x.e):Ev E 128 [cu3 x] (.d (.int (cw4 x))):=by
 obtain⟨vr,key,lb,off,e⟩:=x;have h1:=dt6 e;have h2:=cs6 vr;have h3:=cs6 lb;have h4:=cs6 key;have h5:=ct6 e he.1 he.2;obtain⟨z,hz⟩:∃b,cw0 e=b:=⟨_,rfl⟩;obtain⟨w1,hw1⟩:∃b,cs4 vr=b:=⟨_,rfl⟩;obtain⟨w2,hw2⟩:∃b,cs4 lb=b:=⟨_,rfl⟩;obtain⟨w3,hw3⟩:∃b,cs4 key=b:=⟨_,rfl⟩;obtain⟨ce,hce⟩:∃n,ct5 e=n:=⟨_,rfl⟩;have hs:cw4 ⟨vr,key,lb,off,e⟩=(bif !(lb.toList==(⟨#[]⟩:ByteArray).toList) &&(!(key.toList==(⟨#[]⟩:ByteArray).toList)|| !z)||(lb.toList==(⟨#[]⟩:ByteArray).toList) &&off then 1 else bif !w1||(!(lb.toList==(⟨#[]⟩:ByteArray).toList) && !w2||(lb.toList==(⟨#[]⟩:ByteArray).toList) && !w3)then 6 else bif (lb.toList==(⟨#[]⟩:ByteArray).toList)then ce else 0):=by rw[←hz,←hw1,←hw2,←hw3,←hce];rfl
 rw[hs];rw[hz]at h1;rw[hw1]at h2;rw[hw2]at h3;rw[hw3]at h4;rw[hce]at h5;refine ye1 func128 ntmps128 fun _ _ _=>?_
 repeat'(first|refine yz ?_|refine yp b192 h1 ?_|refine qP (d:=28) rfl rfl rfl rfl rfl rfl bs6 (h2) ?_|refine qP (d:=36) rfl rfl rfl rfl rfl rfl bs6 (h3) ?_|refine qP (d:=45) rfl rfl rfl rfl rfl rfl bs6 (h4) ?_|refine yp b61 h5 ?_|refine yx ?_|(refine yy ?_ ?_<;>intro _)|(refine qV rfl ?_ ?_<;>intro _)|exact zD|exact zL)
 all_goals(refine congrArg D.int ?_;clear hs hz hw1 hw2 hw3 hce h1 h2 h3 h4 h5 he;simp_all [gd9])
set_option maxHeartbeats 2000000 in
theorem ed6(c:CL):Ev E 124 [cu4 c] (.d (.bool (cw3 c))):=by
 obtain⟨k,opt,ds,ps,wh,e,nm,it,od,sk,lm,st,ns⟩:=c;have l1:(ps.map cu0).length=ps.length:=Oc
 have l2:(bz0 wh).length=wh.length:=by
  induction wh with
  |nil=>rfl
  |cons x r ih=>simp[bz0,ih]
 have l3:(it.map cu1).length=it.length:=Oc
 have l4:(od.map cu2).length=od.length:=Oc
 have l5:(st.map cu3).length=st.length:=Oc
 have l6:(ns.map D.str).length=ns.length:=Oc
 have w1:Ev E 194 [.int (ps.map cu0).length,.int 1,.int 6] (.d (.bool (inN ps.length 1 6))):=by have:=within_ev (ps.map cu0).length 1 6;rw[show inN (ps.map cu0).length 1 6=inN ps.length 1 6 by rw[l1]]at this;exact this
 have w2:Ev E 194 [.int (it.map cu1).length,.int 1,.int 16] (.d (.bool (inN it.length 1 16))):=by have:=within_ev (it.map cu1).length 1 16;rw[show inN (it.map cu1).length 1 16=inN it.length 1 16 by rw[l3]]at this;exact this
 have w3:Ev E 194 [.int (st.map cu3).length,.int 1,.int 16] (.d (.bool (inN st.length 1 16))):=by have:=within_ev (st.map cu3).length 1 16;rw[show inN (st.map cu3).length 1 16=inN st.length 1 16 by rw[l5]]at this;exact this
 have w4:Ev E 194 [.int (ns.map D.str).length,.int 1,.int 16] (.d (.bool (inN ns.length 1 16))):=by have:=within_ev (ns.map D.str).length 1 16;rw[show inN (ns.map D.str).length 1 16=inN ns.length 1 16 by rw[l6]]at this;exact this
 have hbw:=b194;refine ye1 func124 ntmps124 fun _ _ _=>?_
 repeat'(first|refine yz ?_|refine yp hbw w1 ?_|refine yp hbw w2 ?_|refine yp hbw w3 ?_|refine yp hbw w4 ?_|refine yx ?_|(refine yy ?_ ?_<;>intro _)|(refine qV rfl ?_ ?_<;>intro _)|exact zD|exact zL)
 all_goals(refine congrArg D.bool ?_;clear w1 w2 w3 w4 hbw;simp_all [cw3,inN,gd9])
 all_goals first|omega|(rw[gb5];simp;omega)
theorem ed7(l:List Int)(x:Int):Ev E 265 [.sl (l.map D.int),.int x] (.d (.int (cz3 (l.findIdx? fun y=>x==y)))):=Ev.fit fun hfit=>by
 have hmax:=(cz2 (hfit (.sl (l.map D.int)) Oc)).1;have hle:(l.map D.int).length=l.length:=Oc
 refine ye2 func265 ntmps265 fun _ _ _=>?_
 repeat'(first|refine yz ?_|refine yx ?_|(refine yy ?_ ?_<;>intro _)|exact zD|exact zL)
 refine ac8 (α:=SFc l fun y=>x==y) (fun p=>⟨[(0,.d (.sl (l.map D.int))),(1,.d (.int x)),(7,.d (.int (l.map D.int).length)),(8,.d (.int p.i))],[]⟩) (fun p=>l.length-p.i) ⟨0,by omega,fun j hj=>absurd hj Oa⟩ (zle 0) ?_;rintro⟨i,hi,ok⟩;dsimp only;rcases fy5 i l.length with hlt|hge
 ·have g1:decide ((i:Int)<((l.map D.int).length:Int))=true:=by rw[hle];simpa using hlt
  have hx0:=fy4 hlt;generalize l[i]=y at hx0;have hx:(l.map D.int)[((i:Nat):Int).toNat]? =some (.int y):=cz1 (f:=D.int) hx0
  cases hc:x==y with
  |true=>
   rw[cz4 hx0 hc ok]
   repeat'(first|refine yz ?_|refine yi (.int y) hx ?_|refine yx ?_|(refine yy ?_ ?_<;>intro _)|exact zD|exact zL)
  |false=>
   repeat'(first|refine yz ?_|refine yi (.int y) hx ?_|refine yx ?_|(refine yy ?_ ?_<;>intro _)|exact zD|exact zL)
   refine ac2 ?_;exact⟨⟨i+1,by omega,SFc.next hx0 hc ok⟩,by dsimp only;omega,(zle 0)⟩
 ·have g1:decide ((i:Int)<((l.map D.int).length:Int))=false:=by rw[hle];simp;omega
  rw[cz5 fun j hj=>ok j Oa]
  exact Om
theorem ed8(l:List Int)(x:Int):Ev E 191 [.sl (l.map D.int),.int x] (.d (.bool (l.any fun y=>x==y))):=by
 have h:=ed7 l x;rw[←cz6];refine ye2 func191 ntmps191 fun _ _ _=>?_
 repeat'(first|refine yz ?_|refine yp b265 h ?_|refine yx ?_|(refine yy ?_ ?_<;>intro _)|exact zD|exact zL)
abbrev oCL(c:CL):aa5:=.var 38 (.w (.d (cu4 c)))
theorem ed9(c:CL)(l:List Int):EvS E 190 [.d (.sl (l.map D.int)),.ptr 0 0] [oCL c] (.d (.bool (l.any fun y=>c.k==y))) [oCL c]:=by
 obtain⟨k,opt,ds,ps,wh,e,nm,it,od,sk,lm,st,ns⟩:=c;have h:=ed8 l k;refine yn func190 ntmps190 fun _ _ _ _=>?_
 repeat'(first|refine yz ?_|refine yp b191 h ?_|refine bc6 [0] rfl rfl rfl rfl rfl ?_|refine yx ?_|(refine yy ?_ ?_<;>intro _)|exact zD|exact zL)
 rfl
def oLi(b:Bool)(a:Int):aa5:=.var 164 (bif b then .w (.d (.int a))else .cs [.d (.int a)])
def adI(a e:Int):Int:=bif a==0 then e else a
def adB(b:Bool)(a:Int):Bool:=bif a==0 then true else b
theorem ee0(b:Bool)(a e:Int):EvS E 125 [.ptr 0 0,.d (.int e)] [oLi b a] (.tup []) [oLi (adB b a) (adI a e)]:=by
 unfold adI adB oLi
 cases b with
 |true=>
  cases c1:a==0 with
  |true=>
   simp only[cond_true];refine yn func125 ntmps125 fun _ _ _ _=>?_
   repeat'(first|refine yz ?_|refine bc4 [0] rfl rfl rfl rfl|refine bc5 [0] rfl rfl rfl rfl|refine yx ?_|(refine yy ?_ ?_<;>intro _)|exact zD|exact zL)
  |false=>
   simp only[cond_true,cond_false];refine yn func125 ntmps125 fun _ _ _ _=>?_
   repeat'(first|refine yz ?_|refine bc4 [0] rfl rfl rfl rfl|refine bc5 [0] rfl rfl rfl rfl|refine yx ?_|(refine yy ?_ ?_<;>intro _)|exact zD|exact zL)
 |false=>
  cases c1:a==0 with
  |true=>
   simp only[cond_true,cond_false];refine yn func125 ntmps125 fun _ _ _ _=>?_
   repeat'(first|refine yz ?_|refine bc4 [0] rfl rfl rfl rfl|refine bc5 [0] rfl rfl rfl rfl|refine yx ?_|(refine yy ?_ ?_<;>intro _)|exact zD|exact zL)
  |false=>
   simp only[cond_false];refine yn func125 ntmps125 fun _ _ _ _=>?_
   repeat'(first|refine yz ?_|refine bc4 [0] rfl rfl rfl rfl|refine bc5 [0] rfl rfl rfl rfl|refine yx ?_|(refine yy ?_ ?_<;>intro _)|exact zD|exact zL)
def neB(b:Bool)(a:Int)(s:ByteArray):Bool:=bif cs4 s then b else adB b a
theorem ee1(b:Bool)(a:Int)(s:ByteArray):EvS E 127 [.ptr 0 0,.d (.str s)] [oLi b a] (.tup []) [oLi (neB b a s) (adI a (cw6 s))]:=by
 have h:=cs6 s;unfold cw6 neB
 cases c1:cs4 s with
 |true=>
  rw[c1]at h;have e:adI a (bif true then 0 else 6)=a:=by unfold adI;cases c:a==0<;>simp_all
  rw[e,cond_true]
  cases b with
  |true=>
   refine yn func127 ntmps127 fun _ _ _ _=>?_
   repeat'(first|refine yz ?_|refine yp bs6 h ?_|refine bc4 [0] rfl rfl rfl rfl|refine bc5 [0] rfl rfl rfl rfl|refine yx ?_|(refine yy ?_ ?_<;>intro _)|exact zD|exact zL)
  |false=>
   refine yn func127 ntmps127 fun _ _ _ _=>?_
   repeat'(first|refine yz ?_|refine yp bs6 h ?_|refine bc4 [0] rfl rfl rfl rfl|refine bc5 [0] rfl rfl rfl rfl|refine yx ?_|(refine yy ?_ ?_<;>intro _)|exact zD|exact zL)
 |false=>
  rw[c1]at h;have ha:=ee0 b a 6;rw[cond_false,cond_false];unfold adB adI at ha ⊢
  cases b with
  |true=>
   cases c2:a==0 with
   |true=>
    rw[c2]at ha;refine yn func127 ntmps127 fun _ _ _ _=>?_
    repeat'(first|refine yz ?_|refine yp bs6 h ?_|refine yc [0] br4 (ha) ?_|refine bc4 [0] rfl rfl rfl rfl|refine bc5 [0] rfl rfl rfl rfl|refine yx ?_|(refine yy ?_ ?_<;>intro _)|exact zD|exact zL)
   |false=>
    rw[c2]at ha;refine yn func127 ntmps127 fun _ _ _ _=>?_
    repeat'(first|refine yz ?_|refine yp bs6 h ?_|refine yc [0] br4 (ha) ?_|refine bc4 [0] rfl rfl rfl rfl|refine bc5 [0] rfl rfl rfl rfl|refine yx ?_|(refine yy ?_ ?_<;>intro _)|exact zD|exact zL)
  |false=>
   cases c2:a==0 with
   |true=>
    rw[c2]at ha;refine yn func127 ntmps127 fun _ _ _ _=>?_
    repeat'(first|refine yz ?_|refine yp bs6 h ?_|refine yc [0] br4 (ha) ?_|refine bc4 [0] rfl rfl rfl rfl|refine bc5 [0] rfl rfl rfl rfl|refine yx ?_|(refine yy ?_ ?_<;>intro _)|exact zD|exact zL)
   |false=>
    rw[c2]at ha;refine yn func127 ntmps127 fun _ _ _ _=>?_
    repeat'(first|refine yz ?_|refine yp bs6 h ?_|refine yc [0] br4 (ha) ?_|refine bc4 [0] rfl rfl rfl rfl|refine bc5 [0] rfl rfl rfl rfl|refine yx ?_|(refine yy ?_ ?_<;>intro _)|exact zD|exact zL)
end Go.Proofs.YtndgolmgaenlfaaGreatDoor
namespace Go.Proofs.YtndgolmgaenlfaaGreatDoor
set_option maxRecDepth 4000
open Go Go.Abs Go.Val Go.RowKit Go.Proofs.Tryz
theorem ee2(n:Nat):decide ((n:Int)>0)=decide (n>0):=by rw[gb5];simp
attribute [local irreducible] Ev EvO EvS aw1 an9 RGo SGo go
def str1(c:CL):Bool:=c.opt&& !(c.k==1||c.k==8)
def str2(c:CL):Bool:=c.ds&& !(c.k==3||c.k==4)
def str3(c:CL):Bool:=decide ((c.ps.length:Int)>0) && !(c.k==1||(c.k==5||c.k==6))
def str4(c:CL):Bool:=decide ((c.wh.length:Int)>0) && !(c.k==1||c.k==3)
def str5(c:CL):Bool:= !(c.k==2) &&(!(cw0 c.e)|| !(s0B c.nm))
def str6(c:CL):Bool:= !(c.k==3||c.k==4) &&(decide ((c.it.length:Int)>0)||decide ((c.od.length:Int)>0))
def str7(c:CL):Bool:= !(c.k==3||c.k==4) &&(!(cw1 c.sk)|| !(cw1 c.lm))
def str8(c:CL):Bool:=decide (c.sk< -1)||(decide (c.sk>1000000000000000)||(decide (c.lm< -1)||decide (c.lm>1000000000000000)))
def str9(c:CL):Bool:=decide ((c.st.length:Int)>0) && !(c.k==7)||decide ((c.ns.length:Int)>0) && !(c.k==8)
theorem ee3(c:CL):cw2 c=(str1 c||(str2 c||(str3 c||(str4 c||(str5 c||(str6 c||(str7 c||(str8 c||str9 c)))))))):=by
 unfold cw2 str1 str2 str3 str4 str5 str6 str7 str8 str9;dsimp only;simp only[ee2];generalize(c.opt&& !(c.k==1||c.k==8))=a1;generalize(c.ds&& !(c.k==3||c.k==4))=a2;generalize(decide (c.ps.length>0) && !(c.k==1||(c.k==5||c.k==6)))=a3;generalize(decide (c.wh.length>0) && !(c.k==1||c.k==3))=a4;generalize(!(c.k==2) &&(!(cw0 c.e)|| !(s0B c.nm)))=a5;generalize(!(c.k==3||c.k==4) &&(decide (c.it.length>0)||decide (c.od.length>0)))=a6;generalize(!(c.k==3||c.k==4) &&(!(cw1 c.sk)|| !(cw1 c.lm)))=a7;generalize(decide (c.sk< -1)||(decide (c.sk>1000000000000000)||(decide (c.lm< -1)||decide (c.lm>1000000000000000))))=a8
 cases a1<;>cases a2<;>cases a3<;>cases a4<;>cases a5<;>cases a6<;>cases a7<;>cases a8<;>rfl
theorem ee4(c:CL)(l:List Int)(b:Bool)(h:(l.any fun y=>c.k==y)=b):EvS E 190 [.d (.sl (l.map D.int)),.ptr 0 0] [oCL c] (.d (.bool b)) [oCL c]:=by
 have:=ed9 c l;rw[h]at this;exact this
set_option maxHeartbeats 8000000 in
theorem ee5(c:CL):Ev E 123 [cu4 c] (.d (.bool (cw2 c))):=by
 have l2:(bz0 c.wh).length=c.wh.length:=by
  generalize c.wh=wh
  induction wh with
  |nil=>rfl
  |cons x r ih=>simp[bz0,ih]
 have hz:=dt6 c.e;have ha:=dt7 c.sk;have hb:=dt7 c.lm;rw[ee3];obtain⟨w,hw⟩:∃b,(c.k==3||c.k==4)=b:=⟨_,rfl⟩;have s0:=ee4 c [3,4] w (by rw[←hw];simp);have s1:=ee4 c [1,8] (c.k==1||c.k==8) Oc;have s2:=ee4 c [1,5,6] (c.k==1||(c.k==5||c.k==6)) Oc;have s3:=ee4 c [1,3] (c.k==1||c.k==3) Oc;have s4:=ee4 c [2] (c.k==2) Oc;have s5:=ee4 c [7] (c.k==7) Oc;have s6:=ee4 c [8] (c.k==8) Oc;obtain⟨v1,h1⟩:∃b,str1 c=b:=⟨_,rfl⟩;obtain⟨v2,h2⟩:∃b,str2 c=b:=⟨_,rfl⟩;obtain⟨v3,h3⟩:∃b,str3 c=b:=⟨_,rfl⟩;obtain⟨v4,h4⟩:∃b,str4 c=b:=⟨_,rfl⟩;obtain⟨v5,h5⟩:∃b,str5 c=b:=⟨_,rfl⟩;obtain⟨v6,h6⟩:∃b,str6 c=b:=⟨_,rfl⟩;obtain⟨v7,h7⟩:∃b,str7 c=b:=⟨_,rfl⟩;obtain⟨v8,h8⟩:∃b,str8 c=b:=⟨_,rfl⟩;obtain⟨v9,h9⟩:∃b,str9 c=b:=⟨_,rfl⟩;rw[h1,h2,h3,h4,h5,h6,h7,h8,h9];unfold str1 at h1;unfold str2 at h2;unfold str3 at h3;unfold str4 at h4;unfold str5 at h5;unfold str6 at h6;unfold str7 at h7;unfold str8 at h8;unfold str9 at h9;rw[hw]at h2 h6 h7;obtain⟨k,opt,ds,ps,wh,e,nm,it,od,sk,lm,st,ns⟩:=c;dsimp only at l2 hz ha hb h1 h2 h3 h4 h5 h6 h7 h8 h9 hw s0 s1 s2 s3 s4 s5 s6;have l1:(ps.map cu0).length=ps.length:=Oc
 have l3:(it.map cu1).length=it.length:=Oc
 have l4:(od.map cu2).length=od.length:=Oc
 have l5:(st.map cu3).length=st.length:=Oc
 have l6:(ns.map D.str).length=ns.length:=Oc
 have hs:s0B nm=(nm.toList==(⟨#[]⟩:ByteArray).toList):=rfl;obtain⟨z,hzz⟩:∃b,cw0 e=b:=⟨_,rfl⟩;obtain⟨z1,hz1⟩:∃b,cw1 sk=b:=⟨_,rfl⟩;obtain⟨z2,hz2⟩:∃b,cw1 lm=b:=⟨_,rfl⟩;rw[hzz]at hz h5;rw[hs]at h5;rw[hz1]at ha h7;rw[hz2]at hb h7;clear hs hzz hz1 hz2 hw;rw[←l1]at h3;rw[←l2]at h4;rw[←l3,←l4]at h6;rw[←l5,←l6]at h9;clear l1 l2 l3 l4 l5 l6;generalize(k==1||k==8)=k1 at*;generalize(k==1||(k==5||k==6))=k2 at*;generalize(k==1||k==3)=k3 at*;generalize(k==2)=k4 at*;generalize(k==7)=k5 at*;generalize(k==8)=k6 at*;refine ye1 func123 ntmps123 fun _ _ _=>?_
 repeat'(first|refine be9 3 (fun b=>⟨[(9,.d (.bool b)),(1,.ptr 0 0),(3,.clo 190 [.ptr 0 0]),(4,.d (.bool w))],[oCL ⟨k,opt,ds,ps,wh,e,nm,it,od,sk,lm,st,ns⟩]⟩) (v1) ?_ ?_|refine be9 4 (fun b=>⟨[(9,.d (.bool b)),(1,.ptr 0 0),(3,.clo 190 [.ptr 0 0]),(4,.d (.bool w))],[oCL ⟨k,opt,ds,ps,wh,e,nm,it,od,sk,lm,st,ns⟩]⟩) (v2) ?_ ?_|refine be9 6 (fun b=>⟨[(24,.d (.bool b)),(1,.ptr 0 0),(3,.clo 190 [.ptr 0 0]),(4,.d (.bool w))],[oCL ⟨k,opt,ds,ps,wh,e,nm,it,od,sk,lm,st,ns⟩]⟩) (v3) ?_ ?_|refine be9 7 (fun b=>⟨[(24,.d (.bool b)),(1,.ptr 0 0),(3,.clo 190 [.ptr 0 0]),(4,.d (.bool w))],[oCL ⟨k,opt,ds,ps,wh,e,nm,it,od,sk,lm,st,ns⟩]⟩) (v4) ?_ ?_|refine be9 9 (fun b=>⟨[(45,.d (.bool b)),(1,.ptr 0 0),(3,.clo 190 [.ptr 0 0]),(4,.d (.bool w))],[oCL ⟨k,opt,ds,ps,wh,e,nm,it,od,sk,lm,st,ns⟩]⟩) (v5) ?_ ?_|refine be9 10 (fun b=>⟨[(45,.d (.bool b)),(1,.ptr 0 0),(3,.clo 190 [.ptr 0 0]),(4,.d (.bool w))],[oCL ⟨k,opt,ds,ps,wh,e,nm,it,od,sk,lm,st,ns⟩]⟩) (v6) ?_ ?_|refine be9 12 (fun b=>⟨[(75,.d (.bool b)),(1,.ptr 0 0),(3,.clo 190 [.ptr 0 0]),(4,.d (.bool w))],[oCL ⟨k,opt,ds,ps,wh,e,nm,it,od,sk,lm,st,ns⟩]⟩) (v7) ?_ ?_|refine be9 13 (fun b=>⟨[(75,.d (.bool b)),(1,.ptr 0 0),(3,.clo 190 [.ptr 0 0]),(4,.d (.bool w))],[oCL ⟨k,opt,ds,ps,wh,e,nm,it,od,sk,lm,st,ns⟩]⟩) (v8) ?_ ?_|refine yz ?_|refine bb9 rfl rfl rfl rfl rfl ?_|refine bc1 [0] rfl rfl rfl rfl (FnX.clo _ _) bs3 (s0) rfl rfl rfl rfl rfl ?_|refine bc1 [0] rfl rfl rfl rfl (FnX.clo _ _) bs3 (s1) rfl rfl rfl rfl rfl ?_|refine bc1 [0] rfl rfl rfl rfl (FnX.clo _ _) bs3 (s2) rfl rfl rfl rfl rfl ?_|refine bc1 [0] rfl rfl rfl rfl (FnX.clo _ _) bs3 (s3) rfl rfl rfl rfl rfl ?_|refine bc1 [0] rfl rfl rfl rfl (FnX.clo _ _) bs3 (s4) rfl rfl rfl rfl rfl ?_|refine bc1 [0] rfl rfl rfl rfl (FnX.clo _ _) bs3 (s5) rfl rfl rfl rfl rfl ?_|refine bc1 [0] rfl rfl rfl rfl (FnX.clo _ _) bs3 (s6) rfl rfl rfl rfl rfl ?_|refine yp b192 hz ?_|refine qP (d:=81) rfl rfl rfl rfl rfl rfl b193 (ha) ?_|refine qP (d:=86) rfl rfl rfl rfl rfl rfl b193 (hb) ?_|refine ac2 ⟨_,?_,(zle 1)⟩|refine yx ?_|(refine yy ?_ ?_<;>intro _)|(refine qV rfl ?_ ?_<;>intro _)|exact zD|exact zL)
 all_goals clear hz ha hb s0 s1 s2 s3 s4 s5 s6
 any_goals(refine Eq.trans ?_ h1;clear h2 h3 h4 h5 h6 h7 h8 h9;simp_all;done)
 any_goals(refine Eq.trans ?_ h2;clear h1 h3 h4 h5 h6 h7 h8 h9;simp_all;done)
 any_goals(refine Eq.trans ?_ h3;clear h1 h2 h4 h5 h6 h7 h8 h9;simp_all;done)
 any_goals(refine Eq.trans ?_ h4;clear h1 h2 h3 h5 h6 h7 h8 h9;simp_all;done)
 any_goals(refine Eq.trans ?_ h5;clear h1 h2 h3 h4 h6 h7 h8 h9;simp_all;done)
 any_goals(refine Eq.trans ?_ h6;clear h1 h2 h3 h4 h5 h7 h8 h9;simp_all;done)
 any_goals(refine Eq.trans ?_ h7;clear h1 h2 h3 h4 h5 h6 h8 h9;simp_all;done)
 any_goals(refine Eq.trans ?_ h8;clear h1 h2 h3 h4 h5 h6 h7 h9;simp_all;done)
 any_goals(refine Eq.trans ?_ h8;clear h1 h2 h3 h4 h5 h6 h7 h9;clear h8;dsimp only at*;simp only[cond_false]at*;simp only[*,gd0];done)
 all_goals(refine congrArg D.bool ?_;clear h1 h2 h3 h4 h5 h6 h7 h8;simp_all)
end Go.Proofs.YtndgolmgaenlfaaGreatDoor
namespace Go.Abs
theorem Le.recell{C:Cx}{tm:List (Nat × X)}{ob ob':List aa5}(hl:ob.length=ob'.length)(h:∀(i:Nat) (x y:aa5),ob[i]? =some x→ob'[i]? =some y→x=y∨∃ty a b,x=.var ty a∧y=.var ty b∧a.cells=b.cells):Le C ⟨tm,ob⟩ ⟨tm,ob'⟩:=by
 rintro a w ⟨F,σ,h1,h2,h3,hi,h4,h5,hs⟩
 have hget:∀(i:Nat) (y:aa5),ob'[i]? =some y→∃x,ob[i]? =some x∧(x=y∨∃ty a b,x=.var ty a∧y=.var ty b∧a.cells=b.cells):=by
  intro i y hy;have hlt:i<ob.length:=by rw[hl];exact(fy9.1 hy).1
  exact⟨_,fy4 hlt,h i _ y (fy4 hlt) hy⟩
 have hlive:∀x y:aa5,(x=y∨∃ty a b,x=.var ty a∧y=.var ty b∧a.cells=b.cells)→y.live=true→x.live=true:=by
  rintro x y (rfl|⟨ty,a,b,rfl,rfl,-⟩) hy
  ·exact hy
  ·rfl
 refine⟨F,σ,h1,h2,h3,⟨hi.flt,hi.glob,hi.len.trans hl,fun o x p hx hp=>?_,fun o o' x x' p p' hne hx hlx hx' hlx' hp hp'=>?_,hi.pre⟩,h4,h5,hs⟩
 ·obtain⟨x0,hx0,e⟩:=hget o x hx;rcases e with rfl|⟨ty,a,b,rfl,rfl,hc⟩
  ·exact hi.obs o x0 p hx0 hp
  ·have hob:=hi.obs o _ p hx0 hp;obtain⟨pb,pc,pn⟩:=p;obtain⟨vs,q1,q2,q3,q4,q5⟩:=hob;exact⟨vs,q1,by rw[←hc];exact q2,q3,fun i x v hx=>q4 i x v (by rw[hc];exact hx),q5⟩
 ·obtain⟨x0,hx0,e⟩:=hget o x hx;obtain⟨x1,hx1,e'⟩:=hget o' x' hx';exact hi.inj o o' x0 x1 p p' hne hx0 (hlive _ _ e hlx) hx1 (hlive _ _ e' hlx') hp hp'
end Go.Abs
namespace Go.Proofs.YtndgolmgaenlfaaGreatDoor
set_option maxRecDepth 4000
open Go Go.Abs Go.Val Go.RowKit Go.Proofs.Tryz
attribute [local irreducible] go SGo an9 Ev aw1 EvO EvS RGo
abbrev oLT(a:Int):aa5:=.var 164 (.w (.d (.int a)))
theorem ee6(a e:Int):EvS E 125 [.ptr 0 0,.d (.int e)] [oLT a] (.tup []) [oLT (adI a e)]:=by
 have h:=ee0 true a e;have e1:adB true a=true:=by unfold adB;cases a==0<;>rfl
 rw[e1]at h;exact h
theorem ee7(a:Int)(s:ByteArray):EvS E 127 [.ptr 0 0,.d (.str s)] [oLT a] (.tup []) [oLT (adI a (cw6 s))]:=by
 have h:=ee1 true a s;have e1:neB true a s=true:=by unfold neB adB;cases cs4 s<;>cases a==0<;>rfl
 rw[e1]at h;exact h
theorem oLi_w(c:aa5):∀(i:Nat) (x y:aa5),[c,oLi false 0][i]? =some x→[c,oLT 0][i]? =some y→x=y∨∃ty a b,x=.var ty a∧y=.var ty b∧a.cells=b.cells
 |0,x,y,hx,hy=>by cases hx;cases hy;exact .inl rfl
 |1,x,y,hx,hy=>by cases hx;cases hy;exact .inr ⟨_,_,_,rfl,rfl,rfl⟩
 |i+2,x,y,hx,hy=>by cases hx
structure OkC(c:CL):Prop where
 p:∀p∈c.ps,OkPA p
 w:∀e∈c.wh,ds7 e
 e:ds7 c.e
 i:∀x∈c.it,ds7 x.e
 o:∀x∈c.od,ds7 x.e
 s:∀x∈c.st,ds7 x.e
theorem ee8:∀(l:List Int) (a:Int),l.foldl adI a=bif a !=0 then a else cw5 l
 |[],a=>by
  rw[gf0,cw5]
  cases h:a !=0 with
  |true=>rfl
  |false=>simpa using h
 |x::r,a=>by
  rw[gd3,ee8 r,cw5];unfold adI
  cases h:a==0 with
  |true=>
   have e:a=0:=by simpa using h
   subst e;rfl
  |false=>
   have e:(a !=0)=true:=by unfold bne;rw[h];rfl
   rw[cond_false,e,cond_true,cond_true]
theorem ee9(x y:List Int):(x++y).foldl adI 0=y.foldl adI (x.foldl adI 0):=List.foldl_append
theorem ef0{α:Type}(f:α→List Int):∀(l:List α) (a:Int),(l.flatMap f).foldl adI a=l.foldl (fun a x=>(f x).foldl adI a) a
 |[],a=>rfl
 |x::r,a=>by rw[gc7,List.foldl_append,ef0 f r,gd3]
structure SLi{α:Type}(l:List α)(f:Int→α→Int)(a0:Int) where
 i:Nat
 hi:i≤l.length
 a:Int
 ok:l.foldl f a0=(l.drop i).foldl f a
def t1F(c:CL):Int→PA→Int:=fun a x=>adI a (cv9 x (c.k==5))
def t2F:Int→Ex→Int:=fun a x=>adI a (ct5 x)
def t3F:Int→IT→Int:=fun a x=>adI (adI a (ct5 x.e)) (cw6 x.asn)
def t4F:Int→SK→Int:=fun a x=>adI a (ct5 x.e)
def t5F:Int→SIt→Int:=fun a x=>adI a (cw4 x)
def t6F:Int→ByteArray→Int:=fun a x=>adI a (cw6 x)
def a2F(c:CL):Int:=c.wh.foldl t2F (c.ps.foldl (t1F c) 0)
def a3F(c:CL):Int:=bif c.k==2 then adI (adI (a2F c) (ct5 c.e)) (cw6 c.nm)else a2F c
def a7F(c:CL):Int:=c.ns.foldl t6F (c.st.foldl t5F (c.od.foldl t4F (c.it.foldl t3F (a3F c))))
theorem a7_eq(c:CL):a7F c=cw5 (c.ps.map (fun p=>cv9 p (c.k==5))++c.wh.map ct5++(bif c.k==2 then [ct5 c.e,cw6 c.nm]else [])++c.it.flatMap (fun x=>[ct5 x.e,cw6 x.asn])++c.od.map (fun x=>ct5 x.e)++c.st.map cw4++c.ns.map cw6):=by
 have h:=ee8 (c.ps.map (fun p=>cv9 p (c.k==5))++c.wh.map ct5++(bif c.k==2 then [ct5 c.e,cw6 c.nm]else [])++c.it.flatMap (fun x=>[ct5 x.e,cw6 x.asn])++c.od.map (fun x=>ct5 x.e)++c.st.map cw4++c.ns.map cw6) 0;rw[show((0:Int) !=0)=false from rfl,cond_false]at h;rw[←h,ee9,ee9,ee9,ee9,ee9,ee9,ef0];simp only[List.foldl_map];unfold a7F a3F a2F
 cases c.k==2<;>rfl
theorem ef1(c:CL)(h1:((decide (c.k<1)||decide (c.k>8))||cw2 c)=false)(h2:cw3 c=false):cw7 c=a7F c:=by
 rw[a7_eq];unfold cw7;rw[h1,h2];rfl
set_option maxHeartbeats 8000000 in
theorem ef2(c:CL)(hok:OkC c):Ev E 64 [cu4 c] (.d (.int (cw7 c))):=Ev.fit fun hfit=>by
 have hst:=ee5 c;have hcr:=ed6 c
 cases c0:(decide (c.k<1)||decide (c.k>8))with
 |true=>
  have e:cw7 c=1:=by unfold cw7;rw[c0];rfl
  rw[e];obtain⟨k,opt,ds,ps,wh,e,nm,it,od,sk,lm,st,ns⟩:=c;dsimp only at c0;clear hst hcr hok hfit;have c0':=c0;rw[gb0]at c0'
  cases c2:decide (k<1)with
  |true=>
   refine ye1 func64 ntmps64 fun _ _ _=>?_
   exact Om
  |false=>
   have c3:decide (k>8)=true:=by rw[c2]at c0;simpa using c0
   refine ye1 func64 ntmps64 fun _ _ _=>?_
   exact Om
 |false=>
  cases c1:cw2 c with
  |true=>
   have e:cw7 c=1:=by unfold cw7;rw[c0,c1];rfl
   rw[e];rw[c1]at hst;obtain⟨k,opt,ds,ps,wh,e,nm,it,od,sk,lm,st,ns⟩:=c;dsimp only at c0;rw[gb3]at c0;obtain⟨c2,c3⟩:=c0;refine ye1 func64 ntmps64 fun _ _ _=>?_
   repeat'(first|refine yz ?_|refine yp b123 hst ?_|refine yx ?_|(refine yy ?_ ?_<;>intro _)|exact zD|exact zL)
  |false=>
   cases c4:cw3 c with
   |true=>
    have e:cw7 c=4:=by unfold cw7;rw[c0,c1,c4];rfl
    rw[e];rw[c1]at hst;rw[c4]at hcr;obtain⟨k,opt,ds,ps,wh,e,nm,it,od,sk,lm,st,ns⟩:=c;dsimp only at c0;rw[gb3]at c0;obtain⟨c2,c3⟩:=c0;refine ye1 func64 ntmps64 fun _ _ _=>?_
    repeat'(first|refine yz ?_|refine yp b123 hst ?_|refine yp b124 hcr ?_|refine yx ?_|(refine yy ?_ ?_<;>intro _)|exact zD|exact zL)
   |false=>
    rw[ef1 c (by rw[c0,c1];rfl) c4];rw[c1]at hst;rw[c4]at hcr;rw[gb3]at c0;obtain⟨c2,c3⟩:=c0;have hkp:=hok.p;have hkw:=hok.w;have hke:=hok.e;have hki:=hok.i;have hko:=hok.o;have hks:=hok.s;have hft:=hfit (cu4 c) Oc;have m1:=(cz2 (hft.aggs (.sl (c.ps.map cu0)) Oc)).1;have m2:=(bz9 (hft.aggs (.sl (bz0 c.wh)) Oc)).1;have m3:=(cz2 (hft.aggs (.sl (c.it.map cu1)) Oc)).1;have m4:=(cz2 (hft.aggs (.sl (c.od.map cu2)) Oc)).1;have m5:=(cz2 (hft.aggs (.sl (c.st.map cu3)) Oc)).1;have m6:=(cz2 (hft.aggs (.sl (c.ns.map D.str)) Oc)).1;clear hft;have l1:(c.ps.map cu0).length=c.ps.length:=Oc
    have l2:(bz0 c.wh).length=c.wh.length:=bz7 _;have l3:(c.it.map cu1).length=c.it.length:=Oc
    have l4:(c.od.map cu2).length=c.od.length:=Oc
    have l5:(c.st.map cu3).length=c.st.length:=Oc
    have l6:(c.ns.map D.str).length=c.ns.length:=Oc
    obtain⟨f1,hf1⟩:∃f,t1F c=f:=⟨_,rfl⟩;have hf1':∀a x,f1 a x=adI a (cv9 x (c.k==5)):=by intro a x;rw[←hf1];rfl
    have hgoal:a7F c=c.ns.foldl t6F (c.st.foldl t5F (c.od.foldl t4F (c.it.foldl t3F (bif c.k==2 then adI (adI (c.wh.foldl t2F (c.ps.foldl f1 0)) (ct5 c.e)) (cw6 c.nm)else(c.wh.foldl t2F (c.ps.foldl f1 0)))))):=by rw[←hf1];rfl
    rw[hgoal];clear hf1 hgoal hok c1 c4 hfit;obtain⟨k,opt,ds,ps,wh,e,nm,it,od,sk,lm,st,ns⟩:=c;dsimp only at*;refine ye1 func64 ntmps64 fun _ _ _=>?_
    repeat'(first|refine yz ?_|refine yp b123 hst ?_|refine yp b124 hcr ?_|refine yx ?_|(refine yy ?_ ?_<;>intro _)|exact zD|exact zL)
    clear hst hcr;refine ac8 (α:=SLi ps f1 0) (fun p=>⟨[(1,.ptr 0 0),(3,.ptr 1 0),(31,.d (.sl (ps.map cu0))),(32,.d (.int (ps.map cu0).length)),(33,.d (.int p.i))],[oCL ⟨k,opt,ds,ps,wh,e,nm,it,od,sk,lm,st,ns⟩,oLT p.a]⟩) (fun p=>ps.length-p.i) ⟨0,by omega,0,rfl⟩ (Le.trans (b:=⟨[(1,.ptr 0 0),(3,.ptr 1 0),(31,.d (.sl (ps.map cu0))),(32,.d (.int (ps.map cu0).length)),(33,.d (.int 0))],[oCL ⟨k,opt,ds,ps,wh,e,nm,it,od,sk,lm,st,ns⟩,oLi false 0]⟩) (zle 2) (Le.recell rfl (oLi_w _))) ?_;rintro⟨i,hi,a,ok⟩;dsimp only at ok ⊢;rcases fy5 i ps.length with hlt|hge
    ·have g1:decide ((i:Int)<((ps.map cu0).length:Int))=true:=by rw[l1];simpa using hlt
     have hx0:=fy4 hlt;generalize ps[i]=x at hx0;have hx:=cz1 (f:=cu0) hx0;have hm:=fy6 hx0;rw[cz0 hx0,gd3]at ok;have h1:=dt3 x (k==5) (hkp x hm);have h2:=ee6 a (cv9 x (k==5));rw[hf1']at ok
     repeat'(first|refine yz ?_|refine yi (cu0 x) hx ?_|refine yp b126 h1 ?_|refine yc [1] br4 (h2) ?_|refine yx ?_|(refine yy ?_ ?_<;>intro _)|exact zD|exact zL)
     refine ac2 ?_;exact⟨⟨i+1,by omega,_,ok⟩,by dsimp only;omega,(zle 2)⟩
    ·have g1:decide ((i:Int)<((ps.map cu0).length:Int))=false:=by rw[l1];simp;omega
     rw[ga2 hge,gf0]at ok;rw[ok];clear ok hi hge;revert a;intro a1
     repeat'(first|refine yz ?_|refine yx ?_|(refine yy ?_ ?_<;>intro _)|exact zD|exact zL)
     refine ac8 (α:=SLi wh t2F a1) (fun p=>⟨[(1,.ptr 0 0),(3,.ptr 1 0),(45,.d (.sl (bz0 wh))),(46,.d (.int (bz0 wh).length)),(47,.d (.int p.i))],[oCL ⟨k,opt,ds,ps,wh,e,nm,it,od,sk,lm,st,ns⟩,oLT p.a]⟩) (fun p=>wh.length-p.i) ⟨0,by omega,a1,rfl⟩ (zle 2) ?_;rintro⟨i,hi,a,ok⟩;dsimp only at ok ⊢;rcases fy5 i wh.length with hlt|hge
     ·have g1:decide ((i:Int)<((bz0 wh).length:Int))=true:=by rw[l2];simpa using hlt
      have hx0:=fy4 hlt;generalize wh[i]=x at hx0;have hx:=by have:=bz5 hx0;exact(show(bz0 wh)[((i:Nat):Int).toNat]? =some (bz1 x) by rw[gb1];exact this)
      have hm:=fy6 hx0;rw[cz0 hx0,gd3]at ok;have h1:=ct6 x (hkw x hm).1 (hkw x hm).2;have h2:=ee6 a (ct5 x)
      repeat'(first|refine yz ?_|refine yi (bz1 x) hx ?_|refine yp b61 h1 ?_|refine yc [1] br4 (h2) ?_|refine yx ?_|(refine yy ?_ ?_<;>intro _)|exact zD|exact zL)
      refine ac2 ?_;exact⟨⟨i+1,by omega,_,ok⟩,by dsimp only;omega,(zle 2)⟩
     ·have g1:decide ((i:Int)<((bz0 wh).length:Int))=false:=by rw[l2];simp;omega
      rw[ga2 hge,gf0]at ok;rw[ok];clear ok hi hge;revert a;intro a2;have h8:=ct6 e hke.1 hke.2;have h9:=ee6 a2 (ct5 e);have h10:=ee7 (adI a2 (ct5 e)) nm
      cases hk2:k==2 with
      |true=>
       rw[cond_true]
       repeat'(first|refine yz ?_|refine yp b61 h8 ?_|refine yc [1] br4 (h9) ?_|refine yc [1] br5 (h10) ?_|refine yx ?_|(refine yy ?_ ?_<;>intro _)|exact zD|exact zL)
       refine ac8 (α:=SLi it t3F (adI (adI a2 (ct5 e)) (cw6 nm))) (fun p=>⟨[(1,.ptr 0 0),(3,.ptr 1 0),(66,.d (.sl (it.map cu1))),(67,.d (.int (it.map cu1).length)),(68,.d (.int p.i))],[oCL ⟨k,opt,ds,ps,wh,e,nm,it,od,sk,lm,st,ns⟩,oLT p.a]⟩) (fun p=>it.length-p.i) ⟨0,by omega,(adI (adI a2 (ct5 e)) (cw6 nm)),rfl⟩ (zle 2) ?_;rintro⟨i,hi,a,ok⟩;dsimp only at ok ⊢;rcases fy5 i it.length with hlt|hge
       ·have g1:decide ((i:Int)<((it.map cu1).length:Int))=true:=by rw[l3];simpa using hlt
        have hx0:=fy4 hlt;generalize it[i]=x at hx0;have hx:=cz1 (f:=cu1) hx0;have hm:=fy6 hx0;rw[cz0 hx0,gd3]at ok;have h1:=ct6 x.e (hki x hm).1 (hki x hm).2;have h2:=ee6 a (ct5 x.e);have h3:=ee7 (adI a (ct5 x.e)) x.asn
        repeat'(first|refine yz ?_|refine yi (cu1 x) hx ?_|refine bl5 rfl rfl rfl rfl rfl rfl rfl ?_|refine bl6 9 rfl rfl rfl rfl rfl rfl ?_|refine yp b61 h1 ?_|refine yc [1] br4 (h2) ?_|refine yc [1] br5 (h3) ?_|refine yx ?_|(refine yy ?_ ?_<;>intro _)|exact zD|exact zL)
        refine ac2 ?_;exact⟨⟨i+1,by omega,_,ok⟩,by dsimp only;omega,(zle 2)⟩
       ·have g1:decide ((i:Int)<((it.map cu1).length:Int))=false:=by rw[l3];simp;omega
        rw[ga2 hge,gf0]at ok;rw[ok];clear ok hi hge;revert a;intro a4
        repeat'(first|refine yz ?_|refine yx ?_|(refine yy ?_ ?_<;>intro _)|exact zD|exact zL)
        refine ac8 (α:=SLi od t4F a4) (fun p=>⟨[(1,.ptr 0 0),(3,.ptr 1 0),(81,.d (.sl (od.map cu2))),(82,.d (.int (od.map cu2).length)),(83,.d (.int p.i))],[oCL ⟨k,opt,ds,ps,wh,e,nm,it,od,sk,lm,st,ns⟩,oLT p.a]⟩) (fun p=>od.length-p.i) ⟨0,by omega,a4,rfl⟩ (zle 2) ?_;rintro⟨i,hi,a,ok⟩;dsimp only at ok ⊢;rcases fy5 i od.length with hlt|hge
        ·have g1:decide ((i:Int)<((od.map cu2).length:Int))=true:=by rw[l4];simpa using hlt
         have hx0:=fy4 hlt;generalize od[i]=x at hx0;have hx:=cz1 (f:=cu2) hx0;have hm:=fy6 hx0;rw[cz0 hx0,gd3]at ok;have h1:=ct6 x.e (hko x hm).1 (hko x hm).2;have h2:=ee6 a (ct5 x.e)
         repeat'(first|refine yz ?_|refine yi (cu2 x) hx ?_|refine bl5 rfl rfl rfl rfl rfl rfl rfl ?_|refine bl6 9 rfl rfl rfl rfl rfl rfl ?_|refine yp b61 h1 ?_|refine yc [1] br4 (h2) ?_|refine yx ?_|(refine yy ?_ ?_<;>intro _)|exact zD|exact zL)
         refine ac2 ?_;exact⟨⟨i+1,by omega,_,ok⟩,by dsimp only;omega,(zle 2)⟩
        ·have g1:decide ((i:Int)<((od.map cu2).length:Int))=false:=by rw[l4];simp;omega
         rw[ga2 hge,gf0]at ok;rw[ok];clear ok hi hge;revert a;intro a5
         repeat'(first|refine yz ?_|refine yx ?_|(refine yy ?_ ?_<;>intro _)|exact zD|exact zL)
         refine ac8 (α:=SLi st t5F a5) (fun p=>⟨[(1,.ptr 0 0),(3,.ptr 1 0),(93,.d (.sl (st.map cu3))),(94,.d (.int (st.map cu3).length)),(95,.d (.int p.i))],[oCL ⟨k,opt,ds,ps,wh,e,nm,it,od,sk,lm,st,ns⟩,oLT p.a]⟩) (fun p=>st.length-p.i) ⟨0,by omega,a5,rfl⟩ (zle 2) ?_;rintro⟨i,hi,a,ok⟩;dsimp only at ok ⊢;rcases fy5 i st.length with hlt|hge
         ·have g1:decide ((i:Int)<((st.map cu3).length:Int))=true:=by rw[l5];simpa using hlt
          have hx0:=fy4 hlt;generalize st[i]=x at hx0;have hx:=cz1 (f:=cu3) hx0;have hm:=fy6 hx0;rw[cz0 hx0,gd3]at ok;have h1:=ed5 x (hks x hm);have h2:=ee6 a (cw4 x)
          repeat'(first|refine yz ?_|refine yi (cu3 x) hx ?_|refine yp b128 h1 ?_|refine yc [1] br4 (h2) ?_|refine yx ?_|(refine yy ?_ ?_<;>intro _)|exact zD|exact zL)
          refine ac2 ?_;exact⟨⟨i+1,by omega,_,ok⟩,by dsimp only;omega,(zle 2)⟩
         ·have g1:decide ((i:Int)<((st.map cu3).length:Int))=false:=by rw[l5];simp;omega
          rw[ga2 hge,gf0]at ok;rw[ok];clear ok hi hge;revert a;intro a6
          repeat'(first|refine yz ?_|refine yx ?_|(refine yy ?_ ?_<;>intro _)|exact zD|exact zL)
          refine ac8 (α:=SLi ns t6F a6) (fun p=>⟨[(1,.ptr 0 0),(3,.ptr 1 0),(104,.d (.sl (ns.map D.str))),(105,.d (.int (ns.map D.str).length)),(106,.d (.int p.i))],[oCL ⟨k,opt,ds,ps,wh,e,nm,it,od,sk,lm,st,ns⟩,oLT p.a]⟩) (fun p=>ns.length-p.i) ⟨0,by omega,a6,rfl⟩ (zle 2) ?_;rintro⟨i,hi,a,ok⟩;dsimp only at ok ⊢;rcases fy5 i ns.length with hlt|hge
          ·have g1:decide ((i:Int)<((ns.map D.str).length:Int))=true:=by rw[l6];simpa using hlt
           have hx0:=fy4 hlt;generalize ns[i]=x at hx0;have hx:=cz1 (f:=D.str) hx0;have hm:=fy6 hx0;rw[cz0 hx0,gd3]at ok;have h3:=ee7 a x
           repeat'(first|refine yz ?_|refine yi (.str x) hx ?_|refine yc [1] br5 (h3) ?_|refine yx ?_|(refine yy ?_ ?_<;>intro _)|exact zD|exact zL)
           refine ac2 ?_;exact⟨⟨i+1,by omega,_,ok⟩,by dsimp only;omega,(zle 2)⟩
          ·have g1:decide ((i:Int)<((ns.map D.str).length:Int))=false:=by rw[l6];simp;omega
           rw[ga2 hge,gf0]at ok;rw[ok];clear ok hi hge;revert a;intro a7
           exact Om
      |false=>
       rw[cond_false]
       repeat'(first|refine yz ?_|refine yx ?_|(refine yy ?_ ?_<;>intro _)|exact zD|exact zL)
       refine ac8 (α:=SLi it t3F a2) (fun p=>⟨[(1,.ptr 0 0),(3,.ptr 1 0),(66,.d (.sl (it.map cu1))),(67,.d (.int (it.map cu1).length)),(68,.d (.int p.i))],[oCL ⟨k,opt,ds,ps,wh,e,nm,it,od,sk,lm,st,ns⟩,oLT p.a]⟩) (fun p=>it.length-p.i) ⟨0,by omega,a2,rfl⟩ (zle 2) ?_;rintro⟨i,hi,a,ok⟩;dsimp only at ok ⊢;rcases fy5 i it.length with hlt|hge
       ·have g1:decide ((i:Int)<((it.map cu1).length:Int))=true:=by rw[l3];simpa using hlt
        have hx0:=fy4 hlt;generalize it[i]=x at hx0;have hx:=cz1 (f:=cu1) hx0;have hm:=fy6 hx0;rw[cz0 hx0,gd3]at ok;have h1:=ct6 x.e (hki x hm).1 (hki x hm).2;have h2:=ee6 a (ct5 x.e);have h3:=ee7 (adI a (ct5 x.e)) x.asn
        repeat'(first|refine yz ?_|refine yi (cu1 x) hx ?_|refine bl5 rfl rfl rfl rfl rfl rfl rfl ?_|refine bl6 9 rfl rfl rfl rfl rfl rfl ?_|refine yp b61 h1 ?_|refine yc [1] br4 (h2) ?_|refine yc [1] br5 (h3) ?_|refine yx ?_|(refine yy ?_ ?_<;>intro _)|exact zD|exact zL)
        refine ac2 ?_;exact⟨⟨i+1,by omega,_,ok⟩,by dsimp only;omega,(zle 2)⟩
       ·have g1:decide ((i:Int)<((it.map cu1).length:Int))=false:=by rw[l3];simp;omega
        rw[ga2 hge,gf0]at ok;rw[ok];clear ok hi hge;revert a;intro a4
        repeat'(first|refine yz ?_|refine yx ?_|(refine yy ?_ ?_<;>intro _)|exact zD|exact zL)
        refine ac8 (α:=SLi od t4F a4) (fun p=>⟨[(1,.ptr 0 0),(3,.ptr 1 0),(81,.d (.sl (od.map cu2))),(82,.d (.int (od.map cu2).length)),(83,.d (.int p.i))],[oCL ⟨k,opt,ds,ps,wh,e,nm,it,od,sk,lm,st,ns⟩,oLT p.a]⟩) (fun p=>od.length-p.i) ⟨0,by omega,a4,rfl⟩ (zle 2) ?_;rintro⟨i,hi,a,ok⟩;dsimp only at ok ⊢;rcases fy5 i od.length with hlt|hge
        ·have g1:decide ((i:Int)<((od.map cu2).length:Int))=true:=by rw[l4];simpa using hlt
         have hx0:=fy4 hlt;generalize od[i]=x at hx0;have hx:=cz1 (f:=cu2) hx0;have hm:=fy6 hx0;rw[cz0 hx0,gd3]at ok;have h1:=ct6 x.e (hko x hm).1 (hko x hm).2;have h2:=ee6 a (ct5 x.e)
         repeat'(first|refine yz ?_|refine yi (cu2 x) hx ?_|refine bl5 rfl rfl rfl rfl rfl rfl rfl ?_|refine bl6 9 rfl rfl rfl rfl rfl rfl ?_|refine yp b61 h1 ?_|refine yc [1] br4 (h2) ?_|refine yx ?_|(refine yy ?_ ?_<;>intro _)|exact zD|exact zL)
         refine ac2 ?_;exact⟨⟨i+1,by omega,_,ok⟩,by dsimp only;omega,(zle 2)⟩
        ·have g1:decide ((i:Int)<((od.map cu2).length:Int))=false:=by rw[l4];simp;omega
         rw[ga2 hge,gf0]at ok;rw[ok];clear ok hi hge;revert a;intro a5
         repeat'(first|refine yz ?_|refine yx ?_|(refine yy ?_ ?_<;>intro _)|exact zD|exact zL)
         refine ac8 (α:=SLi st t5F a5) (fun p=>⟨[(1,.ptr 0 0),(3,.ptr 1 0),(93,.d (.sl (st.map cu3))),(94,.d (.int (st.map cu3).length)),(95,.d (.int p.i))],[oCL ⟨k,opt,ds,ps,wh,e,nm,it,od,sk,lm,st,ns⟩,oLT p.a]⟩) (fun p=>st.length-p.i) ⟨0,by omega,a5,rfl⟩ (zle 2) ?_;rintro⟨i,hi,a,ok⟩;dsimp only at ok ⊢;rcases fy5 i st.length with hlt|hge
         ·have g1:decide ((i:Int)<((st.map cu3).length:Int))=true:=by rw[l5];simpa using hlt
          have hx0:=fy4 hlt;generalize st[i]=x at hx0;have hx:=cz1 (f:=cu3) hx0;have hm:=fy6 hx0;rw[cz0 hx0,gd3]at ok;have h1:=ed5 x (hks x hm);have h2:=ee6 a (cw4 x)
          repeat'(first|refine yz ?_|refine yi (cu3 x) hx ?_|refine yp b128 h1 ?_|refine yc [1] br4 (h2) ?_|refine yx ?_|(refine yy ?_ ?_<;>intro _)|exact zD|exact zL)
          refine ac2 ?_;exact⟨⟨i+1,by omega,_,ok⟩,by dsimp only;omega,(zle 2)⟩
         ·have g1:decide ((i:Int)<((st.map cu3).length:Int))=false:=by rw[l5];simp;omega
          rw[ga2 hge,gf0]at ok;rw[ok];clear ok hi hge;revert a;intro a6
          repeat'(first|refine yz ?_|refine yx ?_|(refine yy ?_ ?_<;>intro _)|exact zD|exact zL)
          refine ac8 (α:=SLi ns t6F a6) (fun p=>⟨[(1,.ptr 0 0),(3,.ptr 1 0),(104,.d (.sl (ns.map D.str))),(105,.d (.int (ns.map D.str).length)),(106,.d (.int p.i))],[oCL ⟨k,opt,ds,ps,wh,e,nm,it,od,sk,lm,st,ns⟩,oLT p.a]⟩) (fun p=>ns.length-p.i) ⟨0,by omega,a6,rfl⟩ (zle 2) ?_;rintro⟨i,hi,a,ok⟩;dsimp only at ok ⊢;rcases fy5 i ns.length with hlt|hge
          ·have g1:decide ((i:Int)<((ns.map D.str).length:Int))=true:=by rw[l6];simpa using hlt
           have hx0:=fy4 hlt;generalize ns[i]=x at hx0;have hx:=cz1 (f:=D.str) hx0;have hm:=fy6 hx0;rw[cz0 hx0,gd3]at ok;have h3:=ee7 a x
           repeat'(first|refine yz ?_|refine yi (.str x) hx ?_|refine yc [1] br5 (h3) ?_|refine yx ?_|(refine yy ?_ ?_<;>intro _)|exact zD|exact zL)
           refine ac2 ?_;exact⟨⟨i+1,by omega,_,ok⟩,by dsimp only;omega,(zle 2)⟩
          ·have g1:decide ((i:Int)<((ns.map D.str).length:Int))=false:=by rw[l6];simp;omega
           rw[ga2 hge,gf0]at ok;rw[ok];clear ok hi hge;revert a;intro a7
           exact Om
end Go.Proofs.YtndgolmgaenlfaaGreatDoor
