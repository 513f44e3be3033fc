import Derived.Test.YthanhdmbelbfcaaGreatX8
set_option linter.defProp false
namespace Wh
end Wh
open Wh
open Go Go.Ab Go.Lib
namespace Pl
def Zp (L s c:Nat)(h2:L≤300)(h3:1≤s)(h4:s≤13)(h5:(L+s-1) / s=c):Bn (DT L s c)=some ((c:Int),()):=by
 have e:=fun W ws=>count_eq (L:Int) (s:Int) W ws () (by omega)
 rw[Nu L s (by omega) h3 (by omega),h5] at e
 unfold DT
 cases decide ((c+3) / 4<c)<;>exact e _ _
def ajP (L s c id:Nat)(h2:L≤300)(h3:1≤s)(h4:s≤13)(h5:(L+s-1) / s=c)(h6:1≤c)(h7:c≤24)(hid:id≤9999):Fx (DT L s c,(id:Int))=some (DM c id,()):=by
 have ec:=Zp L s c h2 h3 h4 h5
 by_cases hc:id<c
 ·have d:decide ((id:Int)<(c:Int))=true:=zdt
  simp only[Fx,ec,zov ec,Fk,zU,dW,d,DM,bQ hc]
 ·have d:decide ((id:Int)<(c:Int))=false:=zdf
  have w:=RM c id h6
  have n1:=O0 id (by omega)
  have er:=ac0 (Lo c id) id w.1 (by omega) (by omega)
  have ew:Hh (DT L s c,(id:Int))=some ((Lo c id:Int),()):=by
   unfold DT Lo
   have sl:=MU id
   generalize qe id=S at *
   by_cases hk:(c+3) / 4<c
   ·have p1:EG ((S:Int),5)=some ((BT S 5:Int),()):=O1 _ 5 sl (by decide)
    have pl:=Kn S 5 (by decide)
    generalize BT S 5=K at *
    have c1:=akb (L:Int) (s:Int) (((c+3) / 4:Nat):Int) (c:Int) (id:Int)
    have c2:=akD (L:Int) (s:Int) (((c+3) / 4:Nat):Int) (c:Int) K pl
    rw[zl86 hk,dW,bQ hk]
    simp only[Hh,cb c1,cv c1,n1,zov n1,p1,zov p1,Ax,cb c2,cv c2]
    split<;>rfl
   ·have p1:EG ((S:Int),1)=some ((BT S 1:Int),()):=O1 _ 1 sl (by decide)
    have pl:=Kn S 1 (by decide)
    generalize BT S 1=K at *
    obtain rfl:K=0:=by omega
    have c1:=aka (L:Int) (s:Int) (c:Int) (id:Int)
    have c2:=akC (L:Int) (s:Int) (c:Int)
    rw[zl90 hk,pO,cT hk]
    simp only[Hh,cb c1,cv c1,n1,zov n1,p1,zov p1,Ax,Int.natCast_zero,cb c2,cv c2]
  simp only[Fx,ec,zov ec,Ax,pO,d,DM,cT hc,ew,zov ew,er,zov er]
def Ul (l:List Int):(tv l).length=l.length:=by simp[tv]
def agJ:∀(d n k m:Nat),n≤500→n<2 ^ d→k*2 ^ d≤1024→m+n*k≤1024 →
  Comes Mj (((n:Int),List.replicate k (0:UInt8),List.replicate m (0:UInt8)),()) (List.replicate (m+n*k) (0:UInt8),()):=by
 intro d
 induction d with
 |zero=>
  intro n k m h0 h1 h2 h3
  obtain rfl:n=0:=by omega
  rw[Nat.zero_mul,zl50]
  exact .out rfl
 |succ d ih=>
  intro n k m h0 h1 h2 h3
  by_cases hn:n=0
  ·subst hn;rw[Nat.zero_mul,zl50];exact .out rfl
  rw[Nat.pow_succ] at h1 h2
  have hp:1≤2 ^ d:=Nat.one_le_two_pow
  have e0:decide ((n:Int)>0)=true:=zdt
  have e1:Int.tmod (n:Int) 2=((n % 2:Nat):Int):=O6 n 2
  have e2:IntKind.wrap .i64 (Int.tdiv (n:Int) 2)=((n / 2:Nat):Int):=E9 (O4 n 2) (by omega)
  have ek:k≤1024:=nV (Nat.le_mul_of_pos_right k (Nat.mul_pos hp (by omega))) h2
  have b1:decide ((List.replicate k (0:UInt8)).length+(List.replicate k (0:UInt8)).length≤eV)=true:=by
   rw[zl67];unfold eV;exact zdt
  have ekk:List.replicate k (0:UInt8)++List.replicate k (0:UInt8)=List.replicate (k+k) (0:UInt8):=List.replicate_append_replicate
  have em:List.replicate m (0:UInt8)++List.replicate k (0:UInt8)=List.replicate (m+k) (0:UInt8):=List.replicate_append_replicate
  have hk2:(k+k)*2 ^ d≤1024:=by rw[←Nat.two_mul,Nat.mul_comm 2 k,Nat.mul_assoc,Nat.mul_comm 2];exact h2
  have hd:n / 2<2 ^ d:=by omega
  by_cases ho:n % 2=1
  ·have hnk:n*k=(n / 2)*(k+k)+k:=by
    rw[←Nat.two_mul,←Nat.mul_assoc]
    have:n=n / 2*2+1:=by omega
    rw[←Nat.succ_mul];congr 1
   have b2:decide ((List.replicate m (0:UInt8)).length+(List.replicate k (0:UInt8)).length≤eV)=true:=by
    rw[zl67,zl67];unfold eV;exact zdt
   have:=ih (n / 2) (k+k) (m+k) (by omega) hd hk2 (by omega)
   rw[show m+k+n / 2*(k+k)=m+n*k by omega] at this
   refine .again ?_ this
   simp only[Mj,e0,e1,e2,ho,b1,b2,ekk,em,dW,zU,Int.cast_ofNat_Int,zl95]
  ·have hnk:n*k=(n / 2)*(k+k):=by
    rw[←Nat.two_mul,←Nat.mul_assoc];congr 1;omega
   have:=ih (n / 2) (k+k) m (by omega) hd hk2 (by omega)
   rw[←hnk] at this
   refine .again ?_ this
   have ez:n % 2=0:=by omega
   have:(((0:Nat):Int)==1)=false:=rfl
   simp only[Mj,e0,e1,e2,ez,b1,ekk,dW,pO,zU,this]
def ac3 (n:Nat)(h:n≤500):KI (tv [(0:Int)],(n:Int))=some (List.replicate n 0,()):=by
 have c:=agJ 10 n 1 0 h (by omega) (by omega) (by omega)
 rw[lA,Nat.mul_one] at c
 have c':Comes Mj (((n:Int),tv [(0:Int)],[]),()) _:=c
 simp only[KI,cb c',cv c',dW,ia]
def ac4 (n:Nat)(h:n≤500):Jp (n:Int)=some (List.replicate n 0,()):=by
 have e:=ac3 n h
 simp only[Jp,e,zov e,Fk,zU,dW]
def xI (a b:List UInt8)(i:Nat):Int:=pZ Go.BinOp.xor Go.IntKind.u8 ((a.getD i 0).toNat:Int) ((b.getD i 0).toNat:Int)
def xL (a b:List UInt8)(i:Nat):List Int:=(List.range i).map (xI a b)
def ads (a b:List UInt8)(i:Nat):(xL a b i).length=i:=by simp[xL]
def akK (a b:List UInt8)(i:Nat):xL a b (i+1)=xL a b i ++ [xI a b i]:=by simp[xL,List.range_succ]
def E_ (a b:List UInt8):List UInt8:=tv (xL a b a.length)
def UG (a b:List UInt8):(E_ a b).length=a.length:=by rw[E_,Ul,ads]
def Uh (a b:List UInt8)(h:a.length=b.length)(hl:a.length≤1000):F4 (a,b)=some (E_ a b,()):=by
 have c:=A_ (r:=Me) (fun i=>(((i:Int),b,a,()),xL a b i)) (n:=a.length) (y:=((),xL a b a.length)) (by
  intro i hi
  have hr:decide (i+1≤eV)=true:=by unfold eV;exact zdt
  have hb:i<b.length:=by omega
  simp only[Me,gl hi,gl hb,g0,ads,hr,dW,zU,zl92,zl94,zw (i:=i),akK,xI]) (by
  have:decide ((a.length:Int)<(a.length:Int))=false:=zdf
  simp only[Me,this,pO]) 0 (by omega)
 have c':Comes Me (((0:Int),b,a,()),[]) _:=c
 simp only[F4,cb c',cv c',dW,E_,ia]
def Hq (s:Nat)(bl:List (List UInt8))(row:List Int):List UInt8:=row.foldl (fun o x=>E_ o (bl.getD x.toNat [])) (List.replicate s 0)
def ac_ (s:Nat)(bl:List (List UInt8))(row:List Int):(Hq s bl row).length=s:=by
 unfold Hq
 have:∀(r:List Int) (o:List UInt8),o.length=s→(r.foldl (fun o x=>E_ o (bl.getD x.toNat [])) o).length=s:=by
  intro r
  induction r with
  |nil=>intro o h;exact h
  |cons x r ih=>intro o h;exact ih _ (by rw[UG,h])
 exact this row _ zl67
def akc (s:Nat)(bl:List (List UInt8))(row:List Int)(i:Nat)(h:i<row.length):Hq s bl (row.take (i+1))=E_ (Hq s bl (row.take i)) (bl.getD (row.getD i 0).toNat []):=by
 unfold Hq
 rw[zl88 h,List.foldl_append,getD_eq _ _ _ h];rfl
structure Bls (s:Nat) (bl:List (List UInt8)) (row:List Int):Prop where
 s1:1≤s
 s2:s≤13
 sz:∀x∈bl,x.length=s
 n1:1≤bl.length
 n2:bl.length≤24
 mem:∀x∈row,0≤x∧x<(bl.length:Int)
 AQ:row.Pairwise (· < ·)
 len:row.length≤24
def Bls.at {s:Nat}{bl:List (List UInt8)}{row:List Int}(B:Bls s bl row){i:Nat}(h:i<row.length):0≤row.getD i 0∧row.getD i 0<(bl.length:Int)∧(bl.getD (row.getD i 0).toNat []).length=s:=by
 have m:=B.mem (row.getD i 0) (by rw[getD_eq _ _ _ h];exact zl96 h)
 refine⟨m.1,m.2,?_⟩
 have hk:(row.getD i 0).toNat<bl.length:=by omega
 rw[getD_eq _ _ _ hk]
 exact B.sz _ (zl96 hk)
def ajO {s:Nat}{bl:List (List UInt8)}{row:List Int}(B:Bls s bl row):Jy (bl,row,(s:Int))=some (Hq s bl row,()):=by
 have hz:=ac3 s (by have:=B.s2;omega)
 have c:=A_ (r:=Mr) (fun i=>(((i:Int),row,bl,Hq s bl (row.take i)),())) (n:=row.length) (y:=(Hq s bl row,())) (by
  intro i hi
  obtain⟨m1,m2,m3⟩:=B.at hi
  have hx:=Uh (Hq s bl (row.take i)) (bl.getD (row.getD i 0).toNat []) (by rw[ac_,m3]) (by rw[ac_];have:=B.s2;omega)
  have hl:=B.len
  have d1:=zl86 m1
  have d2:=zl86 m2
  simp only[Mr,gl hi,g0,zl94,hx,zov hx,d1,d2,Ax,zw (i:=i),akc _ _ _ _ hi]) (by
  have:decide ((row.length:Int)<(row.length:Int))=false:=zdf
  simp only[Mr,this,pO,zl102,ia]) 0 (by omega)
 have c':Comes Mr (((0:Int),row,bl,List.replicate s 0),()) _:=c
 simp only[Jy,hz,zov hz,Fk,zU,dW,cb c',cv c']
def ahf (L s c:Nat):(DT L s c).1=(L:Int):=by unfold DT;cases decide ((c+3) / 4<c)<;>rfl
def Zq (L s c:Nat):(DT L s c).2.1=(s:Int):=by unfold DT;cases decide ((c+3) / 4<c)<;>rfl
def Nv (s:Nat)(al:List UInt8)(i:Nat):List UInt8:=(al.drop (i*s)).take s
def EP (s:Nat)(al:List UInt8)(i:Nat):List (List UInt8):=(List.range i).map (Nv s al)
def Pz (s:Nat)(al:List UInt8)(i:Nat):(EP s al i).length=i:=by simp[EP]
def ad5 (s:Nat)(al:List UInt8)(i:Nat):EP s al (i+1)=EP s al i ++ [Nv s al i]:=by simp[EP,List.range_succ]
def ad4 {s:Nat}{al:List UInt8}{c:Nat}(h:al.length=c*s){x:List UInt8}(hx:x∈EP s al c):x.length=s:=by
 obtain⟨i,hi,rfl⟩:=gG.1 hx
 have hi:=List.mem_range.1 hi
 unfold Nv
 rw[zl3,zl4,h]
 have:(i+1)*s≤c*s:=gH s (by omega)
 rw[Nat.succ_mul] at this
 omega
def Hx (c s:Nat)(t:List UInt8):List UInt8:=t++List.replicate (c*s-t.length) 0
def WB (c s:Nat)(t:List UInt8)(h:t.length≤c*s):(Hx c s t).length=c*s:=by simp[Hx];omega
def WX (L s c:Nat)(h3:1≤s)(h5:(L+s-1) / s=c):L≤c*s∧c*s≤L+s-1:=by
 subst h5
 have h1:=Nat.div_mul_le_self (L+s-1) s
 have h2:=Nat.lt_div_mul_add (a:=L+s-1) (b:=s) (by omega)
 omega
def wMul {a b:Nat}(ha:a≤1000)(hb:b≤1000):IntKind.wrap .i64 ((a:Int)*(b:Int))=((a*b:Nat):Int):=by
 have:a*b≤1000*1000:=Nat.mul_le_mul ha hb
 exact E9 (by simp) (by omega)
def ad6 (al:List UInt8)(i s:Nat):List.take (Int.toNat ((((i+1)*s:Nat):Int)-((i*s:Nat):Int))) (List.drop (Int.toNat ((i*s:Nat):Int)) al)=Nv s al i:=by
 unfold Nv
 rw[show Int.toNat ((((i+1)*s:Nat):Int)-((i*s:Nat):Int))=s by rw[Nat.succ_mul];omega,zl94]
def ajz (L s c:Nat)(t:List UInt8)(hL:t.length=L)(h2:L≤300)(h3:1≤s)(h4:s≤13)(h5:(L+s-1) / s=c)(h7:c≤24) :
  KX (DT L s c,t)=some (EP s (Hx c s t) c,()):=by
 have ec:=Zp L s c h2 h3 h4 h5
 have cl:=WX L s c h3 h5
 have pz:=Zq L s c
 generalize DT L s c=P at *
 have w1:IntKind.wrap .i64 (IntKind.wrap .i64 ((c:Int)*(s:Int))-(t.length:Int))=((c*s-t.length:Nat):Int):=by
  rw[wMul (by omega) (by omega)];exact E9 (by omega) (by omega)
 have ez:=ac4 (c*s-t.length) (by omega)
 have al:=WB c s t (by omega)
 have b1:decide (t.length+(List.replicate (c*s-t.length) (0:UInt8)).length≤eV)=true:=by
  rw[zl67];unfold eV;exact zdt
 have ea:t++List.replicate (c*s-t.length) 0=Hx c s t:=rfl
 generalize Hx c s t=A at *
 have cm:=A_ (r:=Mv) (fun i=>(((i:Int),(),A,()),P,EP s A i)) (n:=c) (y:=((),EP s A c)) (by
  intro i hi
  have m1:=wMul (a:=i) (b:=s) (by omega) (by omega)
  have m2:=wMul (a:=i+1) (b:=s) (by omega) (by omega)
  have m3:(i+1)*s≤c*s:=gH s (by omega)
  have m4:i*s≤(i+1)*s:=gH s (by omega)
  have d1:decide (((i*s:Nat):Int)≤(((i+1)*s:Nat):Int))=true:=zdt
  have d2:decide ((((i+1)*s:Nat):Int)≤(A.length:Int))=true:=zdt
  have b2:decide (i+1≤eV)=true:=by unfold eV;exact zdt
  simp only[Mv,ec,zov ec,gl hi,pz,zw (i:=i),m1,m2,d1,d2,g0,Pz,b2,Ax,ad6,ad5]) (by
  have:decide ((c:Int)<(c:Int))=false:=zdf
  simp only[Mv,ec,zov ec,Fk,this,zU,dW,pO]) 0 (by omega)
 have cm':Comes Mv (((0:Int),(),A,()),P,[]) _:=cm
 simp only[KX,ec,zov ec,pz,w1,ez,zov ez,b1,ea,Ax,cb cm',cv cm']
def symV (s c id:Nat)(t:List UInt8):List UInt8:=Hq s (EP s (Hx c s t) c) (DM c id)
def symBls (L s c id:Nat)(t:List UInt8)(hL:t.length=L)(h3:1≤s)(h4:s≤13)(h5:(L+s-1) / s=c)(h6:1≤c)(h7:c≤24):Bls s (EP s (Hx c s t) c) (DM c id):=by
 have cl:=WX L s c h3 h5
 have rl:=acI (id:=id) h6
 refine⟨h3,h4,fun x hx=>ad4 (WB c s t (by omega)) hx,by rw[Pz];exact h6,by rw[Pz];exact h7,fun x hx=>?_,ajm h6,by omega⟩
 rw[Pz];exact acJ h6 hx
def ajQ (L s c id:Nat)(t:List UInt8)(hL:t.length=L)(h3:1≤s)(h4:s≤13)(h5:(L+s-1) / s=c)(h6:1≤c)(h7:c≤24) :
  Jy (EP s (Hx c s t) c,DM c id,(s:Int))=some (symV s c id t,()):=ajO (symBls L s c id t hL h3 h4 h5 h6 h7)
def Nz (e:Int)(f:Fr):Bool:=bif f.2.1==e then f.2.2.2.1==0 else false
def Fh (e:Int)(f:Fr)(_:Int):Fr:=bif Nz e f then zF else f
def F1 (_:Fr):Nat:=0
def NA (l:List Fr)(e:Int):List Fr:=Ea (Fh e) F1 l 0
def Sq (p:Po)(e:Int):Po:=(NA p.1 e,p.2)
def drop_set (l:List Fr)(e:Int)(i:Nat)(hi:i<l.length):(bif Nz e l[i] then(part (Fh e) F1 0 l i).set i zF else part (Fh e) F1 0 l i)=part (Fh e) F1 0 l (i+1):=by
 have h:=aha (Fh e) F1 0 l i hi
 have g:=Zc (Fh e) F1 0 l i zF hi
 have pl:=Zd (Fh e) F1 0 l i (by omega)
 rw[getD_eq _ _ _ (by omega)] at g
 rw[←h]
 have k:∀j,Fh e l[i] j=bif Nz e l[i] then zF else l[i]:=fun _=>rfl
 rw[k]
 cases hd:Nz e l[i] with
 |true=>rfl
 |false=>
  simp only[pO]
  rw[←g]
  exact(List.set_getElem_self (by omega)).symm
def ajD (p:Po)(e:Int)(h:JU p):q98 (p,e)=some (Sq p e,()):=by
 have hl:p.1.length≤1048576:=h
 have a:=Ro p h
 have q:=A_ (r:=MJ) (st:=fun i=>(((i:Int),(),e,()),((),p.2),((),(0:Int),()),part (Fh e) F1 0 p.1 i,[])) (n:=p.1.length) (y:=(((),()),((),(0:Int),()),((),p.2),[],NA p.1 e)) ?_ ?_ 0 (lB _)
 ·have q':Comes MJ (((0:Int),(),e,()),((),p.2),((),(0:Int),()),p.1,[]) (((),()),((),(0:Int),()),((),p.2),[],NA p.1 e):=by
   have z:=ahb (Fh e) F1 0 p.1
   rw[z] at q;exact q
  simp only[q98,a,zov a,cb q',cv q',qu,zU,dW,Sq]
 ·intro i hi
  have w:=AX (i:=i) (by omega)
  have pl:=Zd (Fh e) F1 0 p.1 i (by omega)
  have g:=Zc (Fh e) F1 0 p.1 i zF hi
  have d:=drop_set p.1 e i hi
  rw[←d]
  unfold zF at g ⊢
  simp only[MJ,pl,gl hi,g0,zl94,g,w,zl99,zU,zl92,dW]
  unfold Nz
  cases (bif p.1[i].2.1==e then p.1[i].2.2.2.1==0 else false)<;>rfl
 ·have d1:decide ((p.1.length:Int)<(p.1.length:Int))=false:=zdf
  simp only[MJ,ag_,LY,d1,pO]
  rfl
noncomputable def Rr (s:b7.D) (h:Int) (n:List UInt8):b7.D×Int:=
 bif !s.1 then(s,1) else match C9 s.2.2.2.1.2.1 h n with
  |none=>(s,3)
  |some i=>bif !(xb s.2.2.1 (vT h n [])).2 then(s,4) else
   ((s.1,s.2.1,(xb s.2.2.1 (vT h n [])).1,(FC s.2.2.2.1 h n).1,Sq s.2.2.2.2.1 (s.2.2.2.1.2.1.getD i z0).2.2.1,s.2.2.2.2.2),0)
noncomputable def Lh (s:b7.D) (h:Int) (n:List UInt8):b7.D×Int:=bif !AL s then(C8,1) else Rr s h n
def R5 {l:List It}{h:Int}{n:List UInt8}{i:Nat}(e:C9 l h n=some i):i<l.length∧(l.getD i z0).1=h∧(l.getD i z0).2.1=n:=by
 obtain⟨h1,h2,_⟩:=CE.1 e
 simp only[bB,zl78] at h2
 exact⟨h1,h2.1,h2.2⟩
def akg {c:Ct}(I:BK c){h:Int}{n:List UInt8}{i:Nat}(e:C9 c.2.1 h n=some i):Dx h n []=true:=by
 obtain⟨h1,h2,h3⟩:=R5 e
 have hm:c.2.1.getD i z0∈c.2.1:=by rw[getD_eq _ _ _ h1];exact zl96 h1
 obtain⟨p1,p2,p3⟩:=Ji (I.ok _ hm)
 rw[h2] at p1
 rw[h3] at p2
 unfold Dx
 rw[zl86 p1,p2];rfl
def ajR (s:b7.D)(S:CR s)(h:Int)(n:List UInt8)(hn:n.length≤9999999):q33 (s,h,n)=some (Lh s h n,()):=by
 have a:=MW s S
 unfold Lh
 cases ho:AL s with
 |false=>
  rw[ho] at a
  simp only[q33,a,zov a,qu,zU,dW,zl98,C8]
 |true=>
 rw[ho] at a
 have I:=EX ho
 have h8:=I.len
 have hl:=F0 ho
 have b:=MV s S (by omega)
 have c1:=OZ s.2.2.2.1 h n (by omega)
 have c2:=Nq s.2.2.2.1 I
 have d:=O2 h n [] hn (by simp)
 have hrl:=T7 (h:=h) (n:=n) (t:=[])
 have e:=Uf s.2.2.1 (vT h n []) (by omega) (by omega)
 have f:=P9 s.2.2.2.1 I (vT h n []) (by omega)
 have g:F7 (s,vT h n [])=some (bif !(xb s.2.2.1 (vT h n [])).2 then(s,4) else bif !(CS s.2.2.2.1 (vT h n [])).2 then(s,1) else((s.1,s.2.1,(xb s.2.2.1 (vT h n [])).1,(CS s.2.2.2.1 (vT h n [])).1,s.2.2.2.2),0),()):=by
  simp only[F7,e,zov e,f,zov f,qu,zU,dW]
  cases (xb s.2.2.1 (vT h n [])).2<;>cases (CS s.2.2.2.1 (vT h n [])).2<;>rfl
 unfold Rr
 cases dJ:C9 s.2.2.2.1.2.1 h n with
 |none=>
  rw[dJ] at c1
  have c:Ee (s.2.2.2.1,h,n)=some ((((0:Int),[],(0:Int),[],()),false),()):=by
   simp only[Ee,c1,zov c1,c2,zov c2,qu,zU,dW,zl70,pO,WM]
  simp only[q33,a,zov a,b,zov b,c,zov c,qu,zU,dW,pO,zl70,zl98]
  cases s.1<;>rfl
 |some i=>
  rw[dJ] at c1
  obtain⟨hi,_,_⟩:=R5 dJ
  have c:Ee (s.2.2.2.1,h,n)=some ((s.2.2.2.1.2.1.getD i z0,true),()):=by
   have p1:decide ((0:Int)≤(i:Int))=true:=zdt
   have p2:decide ((i:Int)<(s.2.2.2.1.2.1.length:Int))=true:=zdt
   have p3:decide ((i:Int)<0)=false:=zdf
   simp only[Ee,c1,zov c1,c2,zov c2,qu,zU,dW,zl70,pO,Cr,p1,p2,p3,zl94,zl92,z0]
  have k1:=akg I dJ
  have k3:=Pt (c:=s.2.2.2.1) (Tz (acA k1))
  have k4:(FC s.2.2.2.1 h n).2=0:=by unfold FC;rw[dJ]
  rw[bQ rfl,k4] at k3
  rw[k3] at g
  have dr:=ajD s.2.2.2.2.1 (s.2.2.2.1.2.1.getD i z0).2.2.1 S.G1
  simp only[q33,a,zov a,b,zov b,c,zov c,d,zov d,g,zov g,qu,zU,zl92,dW,pO,zl70,zl95]
  cases s.1 with
  |false=>rfl
  |true=>
  cases (xb s.2.2.1 (vT h n [])).2 with
  |false=>rfl
  |true=>
   simp only[zl70,pO,dr,zov dr,dW]
   rfl
def akf (s:b7.D)(S:CR s)(h:Int)(n:List UInt8):CR (Lh s h n).1:=by
 unfold Lh
 cases ho:AL s with
 |false=>exact Hu
 |true=>
 unfold Rr
 cases s.1 with
 |false=>exact S
 |true=>
 cases C9 s.2.2.2.1.2.1 h n with
 |none=>exact S
 |some i=>
 cases ha:(xb s.2.2.1 (vT h n [])).2 with
 |false=>exact S
 |true=>
  have k:=acP S (u:=true) (JV _ _ ha) (Up _ (EX ho) h n)
  refine⟨k.log,k.cat,k.items,?_,k.bks,k.Au⟩
  change (NA s.2.2.2.2.1.1 _).length≤_
  unfold NA
  rw[LY]
  exact S.G1
def skipB (own:Bool)(h:Int)(f:Fr):Bool:=bif own then bif f.2.1==(0:Int) then true else f.1 != h else false
def RL (own:Bool)(h:Int)(f:Fr):Bool:= !(skipB own h f)&&(!(decide (f.2.2.2.1>(0:Int))) && !f.2.2.2.2.1)
def unuse (f:Fr):Fr:=(f.1,f.2.1,f.2.2.1,f.2.2.2.1,false,f.2.2.2.2.2)
def Pb (own:Bool)(h:Int)(l:List Fr)(k:Nat):List Fr:=
 bif skipB own h (l.getD k zF) then l else bif decide ((l.getD k zF).2.2.2.1>(0:Int)) then l else bif(l.getD k zF).2.2.2.2.1 then l.set k (unuse (l.getD k zF)) else l
def dJ (hd n:Nat):Nat:=(hd+n) % 8
def BD (own:Bool)(h:Int)(hd:Nat)(l:List Fr):Nat→List Fr
 |0=>l
 |n+1=>Pb own h (BD own h hd l n) (dJ hd n)
def aku (own:Bool)(h:Int)(l:List Fr)(k:Nat):(Pb own h l k).length=l.length:=by
 unfold Pb;cases skipB own h (l.getD k zF)<;>cases decide ((l.getD k zF).2.2.2.1>(0:Int))<;>cases (l.getD k zF).2.2.2.2.1<;>simp
def RK (own:Bool)(h:Int)(hd:Nat)(l:List Fr):∀n,(BD own h hd l n).length=l.length
 |0=>rfl
 |n+1=>by rw[BD,aku,RK own h hd l n]
def Pa (own:Bool)(h:Int)(hd:Nat)(l:List Fr)(n:Nat):Bool:=RL own h ((BD own h hd l n).getD (dJ hd n) zF)
def M9 (own:Bool)(h:Int)(hd:Nat)(l:List Fr):Option Nat:=first 17 (Pa own h hd l)
def afb {hd:Nat}(h:hd<8):dJ hd 0=hd:=by unfold dJ;omega
def J1 (hd n:Nat):dJ hd n<8:=by unfold dJ;omega
def XW (hd n:Nat):Int.tmod (IntKind.wrap .i64 ((dJ hd n:Nat)+1:Int)) 8=((dJ hd (n+1):Nat):Int):=by
 rw[AX (by have:=J1 hd n;omega)]
 refine(O6 (dJ hd n+1) 8).trans ?_
 unfold dJ;omega
def ajU (own:Bool)(h:Int)(hd:Nat)(l:List Fr)(hh:hd<8)(hl:l.length=8) :
  Comes K4 (((0:Int),(),(),h,own),((),(hd:Int),()),((),(0:Int),()),l,[])
   (match M9 own h hd l with
    |some n=>.inl (((),(dJ hd n:Int)),((),(dJ hd (n+1):Int),()),BD own h hd l n)
    |none=>.inr (((),()),((),(0:Int),()),((),(dJ hd 17:Int),()),[],BD own h hd l 17)):=by
 have c:=El (r:=K4) (fun n=>(((n:Int),(),(),h,own),((),(dJ hd n:Int),()),((),(0:Int),()),BD own h hd l n,[])) (n:=17) (p:=Pa own h hd l)
  (yt:=fun n=>.inl (((),(dJ hd n:Int)),((),(dJ hd (n+1):Int),()),BD own h hd l n)) (yn:=.inr (((),()),((),(0:Int),()),((),(dJ hd 17:Int),()),[],BD own h hd l 17)) (by
   intro n hn hp
   have ll:=RK own h hd l n
   have ha:=J1 hd n
   have g1:dJ hd n<(BD own h hd l n).length:=by omega
   have g2:decide ((n:Int)<17)=true:=zdt
   simp only[Pa] at hp
   simp only[BD]
   generalize BD own h hd l n=L at *
   unfold RL skipB at hp
   unfold Pb skipB unuse
   unfold zF at hp ⊢
   simp only[K4,g2,zl94,gl g1,g0,zU,zl92,dW,XW,zw (i:=n)]
   cases h1:(bif own then bif(List.getD L (dJ hd n) ((0:Int),(0:Int),(0:Int),(0:Int),false,())).2.1==(0:Int) then true else(List.getD L (dJ hd n) ((0:Int),(0:Int),(0:Int),(0:Int),false,())).1 != h else false)
   ·cases h2:decide ((List.getD L (dJ hd n) ((0:Int),(0:Int),(0:Int),(0:Int),false,())).2.2.2.1>(0:Int))
    ·cases h3:(List.getD L (dJ hd n) ((0:Int),(0:Int),(0:Int),(0:Int),false,())).2.2.2.2.1
     ·rw[h1,h2,h3] at hp;cases hp
     ·simp only[dW,pO]
    ·simp only[dW,pO]
   ·simp only[dW]) (by
   intro n hn hp
   have ll:=RK own h hd l n
   have ha:=J1 hd n
   have g1:dJ hd n<(BD own h hd l n).length:=by omega
   have g2:decide ((n:Int)<17)=true:=zdt
   simp only[Pa] at hp
   generalize BD own h hd l n=L at *
   unfold RL skipB at hp
   unfold zF at hp
   simp only[K4,g2,zl94,gl g1,g0,zU,zl92,dW,XW]
   cases h1:(bif own then bif(List.getD L (dJ hd n) ((0:Int),(0:Int),(0:Int),(0:Int),false,())).2.1==(0:Int) then true else(List.getD L (dJ hd n) ((0:Int),(0:Int),(0:Int),(0:Int),false,())).1 != h else false)
   ·cases h2:decide ((List.getD L (dJ hd n) ((0:Int),(0:Int),(0:Int),(0:Int),false,())).2.2.2.1>(0:Int))
    ·cases h3:(List.getD L (dJ hd n) ((0:Int),(0:Int),(0:Int),(0:Int),false,())).2.2.2.2.1
     ·simp only[pO]
     ·rw[h1,h2,h3] at hp;cases hp
    ·rw[h1,h2] at hp;cases hp
   ·rw[h1] at hp;cases hp) (by
   have g2:decide (((17:Nat):Int)<17)=false:=by decide
   simp only[K4,g2,pO])
 rw[afb hh] at c
 exact c
def NM (l:List Fr)(e b:Int):Option Nat:=first l.length (fun i=>bif(l.getD i zF).2.1==e then(l.getD i zF).2.2.1==b else false)
def ajF (p:Po)(ed bl:Int)(hl:p.1.length≤9999999):q99 (p,ed,bl)=some (Cr (NM p.1 ed bl),()):=by
 obtain⟨l,nx,u⟩:=p
 have hl:l.length≤9999999:=hl
 have q:=El (r:=La) (fun i=>(((i:Int),bl,(),ed),(l,nx,u))) (n:=l.length) (p:=fun i=>bif(l.getD i zF).2.1==ed then(l.getD i zF).2.2.1==bl else false) (yt:=fun i=>.inl ((i:Int),())) (yn:=.inr ((),())) (fun i hi hp=>by
   have hp':(bif(l.getD i zF).2.1==ed then(l.getD i zF).2.2.1==bl else false)=false:=hp
   unfold zF at hp'
   simp only[La,gl hi,g0,zl94,hp',zl99,zU,zl92,dW,pO,zw (i:=i)]) (fun i hi hp=>by
   have hp':(bif(l.getD i zF).2.1==ed then(l.getD i zF).2.2.1==bl else false)=true:=hp
   unfold zF at hp'
   simp only[La,gl hi,g0,zl94,hp',zl99,zU,zl92,dW]) (by
   have d1:decide ((l.length:Int)<(l.length:Int))=false:=zdf
   simp only[La,d1,pO])
 have q':Comes La ((0,bl,(),ed),(l,nx,u)) _:=q
 simp only[q99,cb q',cv q',dW,NM,ia]
 cases first l.length (fun i=>bif(l.getD i zF).2.1==ed then(l.getD i zF).2.2.1==bl else false)<;>rfl
def MZ (f:Fr):Fr:=(f.1,f.2.1,f.2.2.1,f.2.2.2.1+1,true,f.2.2.2.2.2)
def NN (l:List Fr)(hd:Nat)(h e b:Int):(List Fr×Int×Unit)×Int×Int:=
 match NM l e b with
 |some k=>bif(bif decide ((l.getD k zF).2.2.2.1≥99999) then true else(l.getD k zF).1 != h) then((l,(hd:Int),()),0,3) else((l.set k (MZ (l.getD k zF)),(hd:Int),()),(k:Int),0)
 |none=>match M9 (decide (nC l h 8≥5)) h hd l with
  |some n=>(((BD (decide (nC l h 8≥5)) h hd l n).set (dJ hd n) (h,e,b,1,true,()),(dJ hd (n+1):Int),()),(dJ hd n:Int),1)
  |none=>((l,(hd:Int),()),0,2)
def take_set (l:List Fr)(k:Nat)(hk:k<l.length)(hw:(l.getD k zF).2.2.2.1≤99999)(hw0:0≤(l.getD k zF).2.2.2.1)(x:Fr)(hx:x=(Prod.fst (List.getD l k zF),Prod.fst (Prod.snd (List.getD l k zF)),Prod.fst (Prod.snd (Prod.snd (List.getD l k zF))),IntKind.wrap .i64 (Prod.fst (Prod.snd (Prod.snd (Prod.snd (List.getD l k zF))))+(1:Int)),Prod.snd (Prod.snd (Prod.snd (Prod.snd (List.getD l k zF)))))) :
  (l.set k x).set k (Prod.fst (List.getD (l.set k x) k zF),Prod.fst (Prod.snd (List.getD (l.set k x) k zF)),Prod.fst (Prod.snd (Prod.snd (List.getD (l.set k x) k zF))),Prod.fst (Prod.snd (Prod.snd (Prod.snd (List.getD (l.set k x) k zF)))),true,Prod.snd (Prod.snd (Prod.snd (Prod.snd (Prod.snd (List.getD (l.set k x) k zF))))))=l.set k (MZ (l.getD k zF)):=by
 rw[ae9 _ _ _ _ hk,ajs,hx,MZ]
 rw[wrap64 (by omega) (by omega)]
def ajG (l:List Fr)(hd:Nat)(h e b:Int)(hh:hd<8)(hl:l.length=8)(hw:∀k,k<8→0≤(l.getD k zF).2.2.2.1∧(l.getD k zF).2.2.2.1≤99999):H6 ((l,(hd:Int),()),h,e,b)=some (NN l hd h e b,()):=by
 have c:=Ro (l,(hd:Int),()) (by unfold JU;simp;omega)
 have f:=ajF (l,(hd:Int),()) e b (by simp;omega)
 have o:=acX (l,(hd:Int),()) h (by simp;omega)
 have vc:=ajU (decide (nC l h 8≥5)) h hd l hh hl
 simp only[hl] at o
 have eo:decide ((nC l h 8:Int)≥5)=decide (nC l h 8≥5):=by
  by_cases g:nC l h 8≥5
  ·rw[zl86 g,zdt]
  ·rw[zl90 g,zdf]
 unfold NN
 simp only at f
 cases hf:NM l e b with
 |some k=>
  rw[hf] at f
  have hk:k<l.length:=(CE.1 hf).1
  have hkw:=hw k (by omega)
  have d:decide ((k:Int)≥0)=true:=zdt
  have ts:=take_set l k hk hkw.2 hkw.1 _ rfl
  have hks:∀x:Fr,k<(l.set k x).length:=fun x=>by rw[zl66];exact hk
  unfold zF at ts ⊢
  simp only[H6,c,zov c,f,zov f,Cr,d,zl94,gl hk,zl99,Ax]
  cases (bif decide ((List.getD l k ((0:Int),(0:Int),(0:Int),(0:Int),false,())).2.2.2.1≥99999) then true else(List.getD l k ((0:Int),(0:Int),(0:Int),(0:Int),false,())).1 != h) with
  |true=>rfl
  |false=>
   simp only[pO,gl (hks _),zl92,dW]
   rw[ts]
 |none=>
  rw[hf] at f
  have d:decide ((-1:Int)≥0)=false:=by decide
  have ev:q49 ((l,(hd:Int),()),h)=some (match M9 (decide (nC l h 8≥5)) h hd l with
    |some n=>((BD (decide (nC l h 8≥5)) h hd l n,(dJ hd (n+1):Int),()),(dJ hd n:Int))
    |none=>((BD (decide (nC l h 8≥5)) h hd l 17,(dJ hd 17:Int),()),(-1:Int)),()):=by
   simp only[q49,o,zov o,Fk,zU,dW,eo,cb vc,cv vc]
   cases M9 (decide (nC l h 8≥5)) h hd l<;>rfl
  cases hv:M9 (decide (nC l h 8≥5)) h hd l with
  |some n=>
   rw[hv] at ev
   have dn:decide ((dJ hd n:Int)<0)=false:=zdf
   have hn:dJ hd n<(BD (decide (nC l h 8≥5)) h hd l n).length:=by rw[RK];have:=J1 hd n;omega
   simp only[H6,c,zov c,f,zov f,Cr,d,ev,zov ev,dn,zl94,gl hn,g0,Ax,pO]
  |none=>
   rw[hv] at ev
   have dn:decide ((-1:Int)<0)=true:=by decide
   simp only[H6,c,zov c,f,zov f,Cr,d,ev,zov ev,dn,Fk,zU,dW,pO]
structure Ca (l:List Fr) (hd:Nat):Prop where
 len:l.length=8
 hd:hd<8
 ok:∀i,i<8→okF (l.getD i zF)=true
 tw:∀i,i<8→∀k,k<i→DY l i k=false
 c0:nC l 0 8≤5
 c1:nC l 1 8≤5
def ahi {p:Po}(h:Jh p=true):∃hd:Nat,p=(p.1,(hd:Int),())∧Ca p.1 hd:=by
 obtain⟨l,n,u⟩:=p
 unfold Jh at h
 simp only[bB,zl78,mS] at h
 obtain⟨⟨h1,h2⟩,h3,h4,h5⟩:=h
 have h2:=zl79 h2
 have hr:=wh.1 h3
 refine⟨n.toNat,by rw[show((n.toNat:Nat):Int)=n by omega],h1,by omega,fun i hi=>?_,fun i hi k hk=>?_,h4,h5⟩
 ·have:=hr i hi;unfold Iy at this;rw[bB] at this;exact this.1
 ·have:=hr i hi;unfold Iy at this;rw[bB] at this
  have:=wh.1 this.2 k hk
  simpa using this
def Ca.v {l:List Fr}{hd:Nat}(G:Ca l hd):Jh (l,(hd:Int),())=true:=by
 have h:=G.hd
 have e:m6 (hd:Int) 0 7=true:=zdt
 have r:ld 8 (Iy l)=true:=wh.2 fun i hi=>by
  unfold Iy
  rw[G.ok i hi,zl108]
  exact wh.2 fun k hk=>by rw[G.tw i hi k hk];rfl
 unfold Jh
 simp only[G.len,zl95,e,r,zl86 G.c0,zl86 G.c1,zl92]
def Ca.at {l:List Fr}{hd:Nat}(G:Ca l hd){hd':Nat}(h:hd'<8):Ca l hd':=⟨G.len,h,G.ok,G.tw,G.c0,G.c1⟩
def Ca.held {l:List Fr}{hd:Nat}(G:Ca l hd)(k:Nat)(hk:k<8):0≤(l.getD k zF).2.2.2.1∧(l.getD k zF).2.2.2.1≤99999:=by
 have o:=G.ok k hk
 unfold okF at o
 cases e:((l.getD k zF).2.1==0) with
 |true=>
  rw[e,dW] at o
  simp only[bB,zl78] at o
  omega
 |false=>
  rw[e,pO] at o
  simp only[bB] at o
  have:=zl79 o.2
  omega
def Fi (l:List Fr)(k i:Nat)(f:Fr)(hk:k<l.length):(l.set k f).getD i zF=if i=k then f else l.getD i zF:=by
 rw[zl26,List.getElem?_set]
 by_cases h:k=i
 ·subst h;simp[hk]
 ·rw[cT h,cT (Ne.symm h),←zl26]
def DE (h:Int)(f:Fr):Nat:=if(bif decide (f.2.1>0) then f.1==h else false)=true then 1 else 0
def L1 (l:List Fr)(h:Int)(i:Nat):nC l h (i+1)=nC l h i+DE h (l.getD i zF):=rfl
def Y6 (l:List Fr)(h:Int)(v:Nat)(f:Fr)(hv:v<l.length):∀i,i≤v→nC (l.set v f) h i=nC l h i
 |0,_=>rfl
 |i+1,hi=>by rw[L1,L1,Y6 l h v f hv i (by omega),Fi _ _ _ _ hv,cT (by omega)]
def Ok (l:List Fr)(h:Int)(v:Nat)(f:Fr)(hv:v<l.length):∀i,v<i→nC (l.set v f) h i+DE h (l.getD v zF)=nC l h i+DE h f
 |0,hi=>by omega
 |i+1,hi=>by
  rw[L1,L1,Fi _ _ _ _ hv]
  by_cases e:i=v
  ·subst e;rw[bQ rfl,Y6 l h i f hv i (bA _)];omega
  ·rw[cT e]
   have:=Ok l h v f hv i (by omega)
   omega
def SK (f g:Fr):Prop:=f.1=g.1∧f.2.1=g.2.1∧f.2.2.1=g.2.2.1
def SW {h:Int}{f g:Fr}(s:SK f g):DE h f=DE h g:=by unfold DE;rw[s.1,s.2.1]
def akp {l m:List Fr}{i k:Nat}(a:SK (l.getD i zF) (m.getD i zF))(b:SK (l.getD k zF) (m.getD k zF)):DY l i k=DY m i k:=by
 unfold DY;rw[a.2.1,a.2.2,b.2.1,b.2.2]
def Ca.same {l:List Fr}{hd:Nat}(G:Ca l hd){k:Nat}(hk:k<8){f:Fr}(ho:okF f=true)(s:SK f (l.getD k zF)):Ca (l.set k f) hd:=by
 have hk':k<l.length:=by rw[G.len];exact hk
 have sk:∀i,SK ((l.set k f).getD i zF) (l.getD i zF):=fun i=>by
  rw[Fi _ _ _ _ hk']
  by_cases e:i=k
  ·subst e;rw[bQ rfl];exact s
  ·rw[cT e];exact⟨rfl,rfl,rfl⟩
 refine⟨by rw[zl66];exact G.len,G.hd,fun i hi=>?_,fun i hi j hj=>?_,?_,?_⟩
 ·rw[Fi _ _ _ _ hk']
  by_cases e:i=k
  ·rw[bQ e];exact ho
  ·rw[cT e];exact G.ok i hi
 ·rw[akp (sk i) (sk j)];exact G.tw i hi j hj
 ·have:=Ok l 0 k f hk' 8 hk;rw[SW s] at this;have:=G.c0;omega
 ·have:=Ok l 1 k f hk' 8 hk;rw[SW s] at this;have:=G.c1;omega
def agY {f:Fr}(h:okF f=true):okF (unuse f)=true:=by
 unfold okF at h ⊢
 unfold unuse
 cases e:(f.2.1==0) with
 |true=>
  rw[e] at h
  simp only[dW] at h ⊢
  simp only[bB,zl78] at h ⊢
  exact⟨h.1,h.2.1,h.2.2.1,h.2.2.2.1,by simp⟩
 |false=>
  rw[e] at h
  simp only[pO] at h ⊢
  exact h
def IG (l:List Fr):Prop:=∀i,i<8→(l.getD i zF).2.2.2.1=0
structure VicI (l L:List Fr) (hd:Nat):Prop where
 g:Ca L hd
 f:IG L
 sk:∀i,i<8→SK (L.getD i zF) (l.getD i zF)
def adl {l:List Fr}{hd:Nat}(G:Ca l hd)(F:IG l)(own:Bool)(h:Int):∀n,VicI l (BD own h hd l n) hd
 |0=>⟨G,F,fun _ _=>⟨rfl,rfl,rfl⟩⟩
 |n+1=>by
  have V:=adl G F own h n
  rw[BD]
  generalize BD own h hd l n=L at *
  have ha:=J1 hd n
  generalize dJ hd n=a at *
  have set_:VicI l (L.set a (unuse (L.getD a zF))) hd:=by
   have hl:a<L.length:=by rw[V.g.len];exact ha
   refine⟨V.g.same ha (agY (V.g.ok a ha)) ⟨rfl,rfl,rfl⟩,fun i hi=>?_,fun i hi=>?_⟩
   ·rw[Fi _ _ _ _ hl]
    by_cases e:i=a
    ·rw[bQ e];exact V.f a ha
    ·rw[cT e];exact V.f i hi
   ·rw[Fi _ _ _ _ hl]
    by_cases e:i=a
    ·subst e;rw[bQ rfl];exact V.sk i hi
    ·rw[cT e];exact V.sk i hi
  unfold Pb
  cases skipB own h (L.getD a zF)
  ·cases decide ((L.getD a zF).2.2.2.1>(0:Int))
   ·cases (L.getD a zF).2.2.2.2.1
    ·exact V
    ·exact set_
   ·exact V
  ·exact V
def Ca.miss {L:List Fr}{hd:Nat}(G:Ca L hd){h e b:Int}(h1:m6 h 0 1=true)(h2:m6 e 1 99999=true)(h3:m6 b 0 23=true)
  (nf:∀i,i<8→¬((L.getD i zF).2.1=e∧(L.getD i zF).2.2.1=b)) {v:Nat} (hv:v<8) (ho:nC L h 8≥5→DE h (L.getD v zF)=1):Ca (L.set v (h,e,b,1,true,())) hd:=by
 have fJ:v<L.length:=by rw[G.len];exact hv
 have he:=zl79 h2
 have hh:=zl79 h1
 have key:∀i,(L.set v (h,e,b,1,true,())).getD i zF=if i=v then(h,e,b,1,true,()) else L.getD i zF:=fun i=>Fi _ _ _ _ fJ
 refine⟨by rw[zl66];exact G.len,G.hd,fun i hi=>?_,fun i hi j hj=>?_,?_,?_⟩
 ·rw[key]
  by_cases q:i=v
  ·rw[bQ q]
   unfold okF
   have:(e==0)=false:=zl89.2 (by omega)
   simp only[this,pO,h1,h2,h3,zl92,zl108]
   decide
  ·rw[cT q];exact G.ok i hi
 ·unfold DY
  rw[key,key]
  by_cases q:i=v
  ·have qj:¬j=v:=by omega
   rw[bQ q,cT qj]
   have:=nf j (by omega)
   simp only[zdt (p:=e>0),dW]
   by_cases q1:e=(L.getD j zF).2.1
   ·rw[zl78.2 q1,dW,zl89]
    intro q2;exact this ⟨q1.symm,q2.symm⟩
   ·rw[zl89.2 q1];rfl
  ·rw[cT q]
   by_cases qj:j=v
   ·rw[bQ qj]
    have:=nf i hi
    by_cases q1:(L.getD i zF).2.1=e
    ·have q2:¬(L.getD i zF).2.2.1=b:=fun q2=>this ⟨q1,q2⟩
     simp only[zl89.2 q2]
     cases (bif decide ((L.getD i zF).2.1>0) then(L.getD i zF).2.1==e else false)<;>rfl
    ·simp only[zl89.2 q1]
     cases decide ((L.getD i zF).2.1>0)<;>rfl
   ·rw[cT qj];exact G.tw i hi j hj
 ·have s:=Ok L 0 v (h,e,b,1,true,()) fJ 8 hv
  have c:=G.c0
  by_cases q:h=0
  ·subst q
   have i1:DE 0 ((0,e,b,1,true,()):Fr)≤1:=by unfold DE;split<;>omega
   by_cases g:nC L 0 8≥5
   ·rw[ho g] at s;omega
   ·omega
  ·have i1:DE 0 ((h,e,b,1,true,()):Fr)=0:=by
    unfold DE;rw[cT];simp only[zl89.2 q];cases decide (e>0)<;>simp
   omega
 ·have s:=Ok L 1 v (h,e,b,1,true,()) fJ 8 hv
  have c:=G.c1
  by_cases q:h=1
  ·subst q
   have i1:DE 1 ((1,e,b,1,true,()):Fr)≤1:=by unfold DE;split<;>omega
   by_cases g:nC L 1 8≥5
   ·rw[ho g] at s;omega
   ·omega
  ·have i1:DE 1 ((h,e,b,1,true,()):Fr)=0:=by
    unfold DE;rw[cT];simp only[zl89.2 q];cases decide (e>0)<;>simp
   omega
def MS (f:Fr):Fr:=(f.1,f.2.1,f.2.2.1,f.2.2.2.1-1,f.2.2.2.2)
def ajJ {l:List Fr}{hd:Nat}(G:Ca l hd)(k:Nat)(hk:k<8)(hh:(l.getD k zF).2.2.2.1=1):q96 ((l,(hd:Int),()),(k:Int))=some (((l.set k (MS (l.getD k zF)),(hd:Int),()),true),()):=by
 have c:=Ro (l,(hd:Int),()) (by unfold JU;have:=G.len;simp only;omega)
 have o:=acY (l,(hd:Int),()) (by have:=G.len;simp only;omega)
 rw[G.v] at o
 have i:=B4 (k:Int) 0 7
 rw[show m6 (k:Int) 0 7=true from zdt] at i
 have hk':k<l.length:=by rw[G.len];exact hk
 have z:((1:Int)==0)=false:=rfl
 have w:IntKind.wrap .i64 ((1:Int)-1)=1-1:=by decide
 unfold MS
 rw[hh]
 unfold zF at hh ⊢
 simp only[q96,o,zov o,c,zov c,i,zov i,hh,z,w,zl94,gl hk',g0,zl70,zl98,zl99,Ax,pO]
def agX {f:Fr}(h:okF f=true)(h0:f.2.2.2.1=0)(he:f.2.1≠0):okF (MZ f)=true:=by
 unfold okF at h ⊢
 unfold MZ
 have e:(f.2.1==0)=false:=zl89.2 he
 rw[e] at h
 simp only[pO,e,bB] at h ⊢
 refine⟨h.1,?_⟩
 rw[h0];decide
def agW {f:Fr}(h:okF f=true)(h0:f.2.2.2.1=1):okF (MS f)=true:=by
 unfold okF at h ⊢
 unfold MS
 cases e:(f.2.1==0) with
 |true=>
  rw[e] at h
  simp only[dW,bB,zl78] at h
  omega
 |false=>
  rw[e] at h
  simp only[pO,bB] at h ⊢
  refine⟨h.1,?_⟩
  rw[h0];decide
def ae8 {l:List Fr}(k:Nat)(hk:k<l.length)(f:Fr)(h0:f.2.2.2.1=0)(o:∀i,i<8→i≠k→(l.getD i zF).2.2.2.1=0):IG (l.set k f):=fun i hi=>by
 rw[Fi _ _ _ _ hk]
 by_cases e:i=k
 ·rw[bQ e];exact h0
 ·rw[cT e];exact o i hi e
structure Got (l l':List Fr) (hd' k:Nat):Prop where
 g:Ca l' hd'
 lt:k<8
 one:(l'.getD k zF).2.2.2.1=1
 g':Ca (l'.set k (MS (l'.getD k zF))) hd'
 f':IG (l'.set k (MS (l'.getD k zF)))
def XU {l l':List Fr}{hd' k:Nat}(g:Ca l' hd')(hk:k<8)(h:(l'.getD k zF).2.2.2.1=1)(o:∀i,i<8→i≠k→(l'.getD i zF).2.2.2.1=0):Got l l' hd' k:=by
 have hk':k<l'.length:=by rw[g.len];exact hk
 refine⟨g,hk,h,g.same hk (agW (g.ok k hk) h) ⟨rfl,rfl,rfl⟩,ae8 k hk' _ ?_ o⟩
 show(l'.getD k zF).2.2.2.1-1=0
 rw[h]
 rfl
def Y7 {l m:List Fr}{h:Int}(s:∀i,i<8→SK (l.getD i zF) (m.getD i zF)):∀i,i≤8→nC l h i=nC m h i
 |0,_=>rfl
 |i+1,hi=>by rw[L1,L1,Y7 s i (by omega),SW (s i (by omega))]
def got_ok {l:List Fr}{hd:Nat}(G:Ca l hd)(F:IG l){h e b:Int}(h1:m6 h 0 1=true)(h2:m6 e 1 99999=true)(h3:m6 b 0 23=true) :
  (∃l' hd' k c,NN l hd h e b=((l',((hd':Nat):Int),()),((k:Nat):Int),c)∧(c=0∨c=1)∧Got l l' hd' k)∨(∃f c,NN l hd h e b=((l,(hd:Int),()),f,c)∧(c=2∨c=3)):=by
 have he:=zl79 h2
 unfold NN
 cases hf:NM l e b with
 |some k=>
  obtain⟨k1,k2,k3⟩:=CE.1 hf
  have k8:k<8:=by rw[G.len] at k1;exact k1
  have ke:(l.getD k zF).2.1=e:=by
   cases q:((l.getD k zF).2.1==e) with
   |true=>exact eq_of_beq q
   |false=>rw[q] at k2;cases k2
  simp only
  cases (bif decide ((l.getD k zF).2.2.2.1≥99999) then true else(l.getD k zF).1 != h) with
  |true=>exact .inr ⟨0,3,rfl,.inr rfl⟩
  |false=>
   refine .inl ⟨l.set k (MZ (l.getD k zF)),hd,k,0,rfl,.inl rfl,XU (G.same k8 (agX (G.ok k k8) (F k k8) (by omega)) ⟨rfl,rfl,rfl⟩) k8 ?_ fun i hi hne=>?_⟩
   ·rw[Fi _ _ _ _ k1,bQ rfl]
    show(l.getD k zF).2.2.2.1+1=1
    rw[F k k8];rfl
   ·rw[Fi _ _ _ _ k1,cT hne];exact F i hi
 |none=>
  simp only
  cases hv:M9 (decide (nC l h 8≥5)) h hd l with
  |none=>exact .inr ⟨0,2,rfl,.inl rfl⟩
  |some n=>
   obtain⟨n1,n2,n3⟩:=CE.1 hv
   have V:=adl G F (decide (nC l h 8≥5)) h n
   have nf:∀i,i<8→¬(((BD (decide (nC l h 8≥5)) h hd l n).getD i zF).2.1=e∧((BD (decide (nC l h 8≥5)) h hd l n).getD i zF).2.2.1=b):=by
    rintro i hi ⟨q1,q2⟩
    have:=NH.1 hf i (by rw[G.len];exact hi)
    have s:=V.sk i hi
    rw[←s.2.1,←s.2.2,q1,q2] at this
    simp at this
   have ofe:nC (BD (decide (nC l h 8≥5)) h hd l n) h 8=nC l h 8:=Y7 V.sk 8 (bA _)
   have ha:=J1 hd n
   unfold Pa at n2
   have ho:nC (BD (decide (nC l h 8≥5)) h hd l n) h 8≥5→DE h ((BD (decide (nC l h 8≥5)) h hd l n).getD (dJ hd n) zF)=1:=by
    intro g5
    rw[ofe] at g5
    rw[zl86 g5] at n2 ⊢
    have ok:=V.g.ok (dJ hd n) ha
    rw[zl86 g5] at ok
    generalize (BD true h hd l n).getD (dJ hd n) zF=f at *
    unfold RL skipB at n2
    simp only[dW] at n2
    cases q:(f.2.1==0) with
    |true=>rw[q] at n2;cases n2
    |false=>
     cases q2:(f.1 != h) with
     |true=>rw[q,q2] at n2;cases n2
     |false=>
      unfold okF at ok
      rw[q,pO] at ok
      simp only[bB] at ok
      have:=zl79 ok.1.1.2
      unfold DE
      rw[bQ]
      rw[zdt (p:=f.2.1>0),dW]
      simpa using q2
   have hl:dJ hd n<(BD (decide (nC l h 8≥5)) h hd l n).length:=by rw[V.g.len];exact ha
   refine .inl ⟨_,dJ hd (n+1),dJ hd n,1,rfl,.inr rfl,XU ((V.g.miss h1 h2 h3 nf ha ho).at (J1 _ _)) ha ?_ fun i hi hne=>?_⟩
   ·rw[Fi _ _ _ _ hl,bQ rfl]
   ·rw[Fi _ _ _ _ hl,cT hne];exact V.f i hi
section
variable (up:Bool) (now:Int) (log:List UInt8) (cl:Int) (row:List Int) (t:an.D) (P1 P2:Int) (v:cg.D) (fT:List an.D) (bks:List cw.D) (Au:List cg.D) (W ws:List Int) (k:Int)
variable (up0:Bool) (now0:Int) (log0:List UInt8) (cl0 hd0:Int) (w:eL.D) (its0:List an.D) (fr0:List Fr) (bks0:List cw.D) (AV:List cg.D)
end
abbrev Jb:Type:=Int×Int×Int×Unit
def zJ:Jb:=((0:Int),(0:Int),(0:Int),())
def jv (j:Jb):Int:=j.2.1-j.2.2.1
def CD (v:Nat→Int):Nat→Option Nat
 |0=>none
 |i+1=>match CD v i with
  |none=>some i
  |some b=>bif decide (v i>v b) then some i else some b
def Lz {v:Nat→Int}:∀{n b:Nat},CD v n=some b→b<n
 |0,b,h=>by cases h
 |n+1,b,h=>by
  rw[CD] at h
  cases e:CD v n with
  |none=>rw[e] at h;cases h;omega
  |some c=>
   have:=Lz e
   rw[e] at h
   dsimp only at h
   cases q:decide (v n>v c) with
   |true=>rw[q] at h;cases h;omega
   |false=>rw[q] at h;cases h;omega
def WN {v w:Nat→Int}:∀{n:Nat},(∀i,i<n→v i=w i)→CD v n=CD w n
 |0,_=>rfl
 |n+1,h=>by
  rw[CD,CD,WN fun i hi=>h i (by omega)]
  cases e:CD w n with
  |none=>rfl
  |some b=>dsimp only;rw[h n (by omega),h b (by have:=Lz e;omega)]
structure JobsI (J:List Jb) (now:Int):Prop where
 len:J.length≤100000
 nw:now≤99999
 ok:∀i,i<J.length→(0≤(J.getD i zJ).2.1∧(J.getD i zJ).2.1≤3)∧0≤(J.getD i zJ).2.2.1∧(J.getD i zJ).2.2.1≤now
def wJ {w s now:Int}(h1:0≤w∧w≤3)(h2:0≤s∧s≤now)(h3:now≤99999):IntKind.wrap .i64 (IntKind.wrap .i64 (w+now)-s)=w+now-s:=by
 rw[wrap64 (n:=w+now) (by omega) (by omega),wrap64 (by omega) (by omega)]
def acW {J:List Jb}{now:Int}(I:JobsI J now):q94 (J,now)=some (Cr (CD (fun k=>jv (J.getD k zJ)) J.length),()):=by
 have hl:=I.len
 have c:=A_ (r:=K_) (fun i=>(((i:Int),Cr (CD (fun k=>jv (J.getD k zJ)) i),J,now),())) (n:=J.length) (y:=.inr (Cr (CD (fun k=>jv (J.getD k zJ)) J.length),())) (fun i hi=>by
  have o:=I.ok i hi
  have hn:=I.nw
  have wi:=zw (i:=i)
  have i1:=B4 (J.getD i zJ).2.1 0 99999
  have i2:=B4 (J.getD i zJ).2.2.1 0 now
  rw[show m6 (J.getD i zJ).2.1 0 99999=true from zdt] at i1
  rw[show m6 (J.getD i zJ).2.2.1 0 now=true from zdt] at i2
  have dn:decide (now>99999)=false:=zdf
  have w1:=wJ o.1 o.2 hn
  rw[CD]
  cases e:CD (fun k=>jv (J.getD k zJ)) i with
  |none=>
   have d:decide ((-1:Int)<0)=true:=by decide
   dsimp only[Cr]
   unfold zJ at i1 i2
   simp only[K_,gl hi,g0,zl94,i1,zov i1,i2,zov i2,dn,d,zl70,zl98,zl99,zl76,Ax,pO,wi]
  |some b=>
   have hb:=Lz e
   have hb':b<J.length:=by omega
   have ob:=I.ok b hb'
   have w2:=wJ ob.1 ob.2 hn
   have d:decide ((b:Int)<0)=false:=zdf
   have dv:decide ((J.getD i zJ).2.1+now-(J.getD i zJ).2.2.1>(J.getD b zJ).2.1+now-(J.getD b zJ).2.2.1)=decide (jv (J.getD i zJ)>jv (J.getD b zJ)):=by
    unfold jv
    by_cases q:(J.getD i zJ).2.1-(J.getD i zJ).2.2.1>(J.getD b zJ).2.1-(J.getD b zJ).2.2.1
    ·rw[zl86 q,zdt]
    ·rw[zl90 q,zdf]
   dsimp only[Cr]
   rw[←dv]
   unfold zJ at i1 i2 w1 w2 ⊢
   simp only[K_,gl hi,gl hb',g0,zl94,i1,zov i1,i2,zov i2,dn,d,w1,w2,zl70,zl98,zl99,Ax,pO,wi]
   cases decide ((J.getD i ((0:Int),(0:Int),(0:Int),())).2.1+now-(J.getD i ((0:Int),(0:Int),(0:Int),())).2.2.1>(J.getD b ((0:Int),(0:Int),(0:Int),())).2.1+now-(J.getD b ((0:Int),(0:Int),(0:Int),())).2.2.1)<;>rfl) (by
  have d1:decide ((J.length:Int)<(J.length:Int))=false:=zdf
  simp only[K_,d1,pO,ia]) 0 (lB _)
 have c':Comes K_ ((0,-1,J,now),()) _:=c
 simp only[q94,cb c',cv c',dW,ia]
def sv (v:Sv):Int:=3-v.2.2.2.2.1-v.2.2.2.2.2.1
structure EN (S:List Sv) (now:Int):Prop where
 len:S.length≤100000
 nw:now≤99999
 cl:∀i,i<S.length→0≤(S.getD i zS).1∧(S.getD i zS).1≤3
 AQ:∀i j,i<j→j<S.length→(S.getD i zS).1<(S.getD j zS).1
 wd:∀i,i<S.length→0≤(S.getD i zS).2.2.2.2.1∧(S.getD i zS).2.2.2.2.1≤3
 sn:∀i,i<S.length→0≤(S.getD i zS).2.2.2.2.2.1∧(S.getD i zS).2.2.2.2.2.1≤now
def EN.inj {S:List Sv}{now:Int}(I:EN S now){i j:Nat}(hi:i<S.length)(hj:j<S.length)(h:(S.getD i zS).1=(S.getD j zS).1):i=j:=by
 rcases Nat.lt_trichotomy i j with q|q|q
 ·have:=I.AQ i j q hj;omega
 ·exact q
 ·have:=I.AQ j i q hi;omega
def vO (S:List Sv)(O:List Nat)(k:Nat):Int:=sv (S.getD (O.getD k 0) zS)
def nxt (S:List Sv)(O:List Nat):Option Nat:=(CD (vO S O) O.length).map fun k=>O.getD k 0
def Cc (f:Nat→Int)(S:List Sv)(O:List Nat):List Jb:=O.map fun i=>(f i,3-(S.getD i zS).2.2.2.2.1,(S.getD i zS).2.2.2.2.2.1,())
def IX (f:Nat→Int)(S:List Sv)(O:List Nat):(Cc f S O).length=O.length:=by simp[Cc]
def P5 (f:Nat→Int)(S:List Sv)(O:List Nat)(k:Nat)(h:k<O.length):(Cc f S O).getD k zJ=(f (O.getD k 0),3-(S.getD (O.getD k 0) zS).2.2.2.2.1,(S.getD (O.getD k 0) zS).2.2.2.2.2.1,()):=by
 rw[getD_eq _ _ _ (by rw[IX];exact h),getD_eq _ _ _ h]
 simp[Cc]
def Yd {S:List Sv}{now:Int}(I:EN S now)(f:Nat→Int){O:List Nat}(h:∀i∈O,i<S.length)(hl:O.length≤S.length):JobsI (Cc f S O) now:=by
 refine⟨by rw[IX];have:=I.len;omega,I.nw,fun i hi=>?_⟩
 rw[IX] at hi
 rw[P5 _ _ _ _ hi]
 have m:O.getD i 0<S.length:=h _ (by rw[getD_eq _ _ _ hi];exact zl96 hi)
 have a:=I.wd _ m
 have b:=I.sn _ m
 exact⟨⟨by show 0≤3-_;omega,by show 3-_≤(3:Int);omega⟩,b⟩
def Yc (f:Nat→Int)(S:List Sv)(O:List Nat):CD (fun k=>jv ((Cc f S O).getD k zJ)) (Cc f S O).length=CD (vO S O) O.length:=by
 rw[IX]
 exact WN fun i hi=>by rw[P5 _ _ _ _ hi];rfl
def wD {w:Int}(h:0≤w∧w≤3):IntKind.wrap .i64 (3-w)=3-w:=wrap64 (by omega) (by omega)
def hs (S:List Sv)(k:Nat):Int:=Int.tmod (S.getD k zS).1 2
def own (S:List Sv)(h:Int)(i:Nat):List Nat:=(List.range i).filter fun k=>hs S k==h
def ag5 (S:List Sv)(h:Int)(i:Nat):own S h (i+1)=own S h i++(bif hs S i==h then [i] else []):=by
 unfold own
 rw[List.range_succ,List.filter_append]
 cases e:(hs S i==h)<;>simp[e]
def Y9 (S:List Sv)(h:Int)(i:Nat):(own S h i).length≤i:=by
 have:=List.length_filter_le (fun k=>hs S k==h) (List.range i)
 rw[List.length_range] at this
 exact this
def ag4 {S:List Sv}{h:Int}{n k:Nat}:k∈own S h n↔k<n∧hs S k=h:=by
 unfold own;rw[List.mem_filter,List.mem_range,zl78]
def isB (S:List Sv)(h c:Int):Bool:=match nxt S (own S h S.length) with
 |some j=>(S.getD j zS).1==c
 |none=>false
def ajx (s:b7.D)(I:EN s.2.2.2.2.2.2.1 s.2.1)(c:Int):G3 (s,c)=some (isB s.2.2.2.2.2.2.1 (Int.tmod c 2) c,()):=by
 have hS:=I.len
 have hh (x:Int):Ci x=some (Int.tmod x 2,()):=rfl
 have jo:=acW (Yd I (fun i=>(s.2.2.2.2.2.2.1.getD i zS).1) (O:=own s.2.2.2.2.2.2.1 (Int.tmod c 2) s.2.2.2.2.2.2.1.length) (fun i hi=>(ag4.1 hi).1) (Y9 _ _ _))
 rw[Yc] at jo
 have q:=A_ (r:=Kq) (fun i=>(((i:Int),(),(),c),s,Cc (fun i=>(s.2.2.2.2.2.2.1.getD i zS).1) s.2.2.2.2.2.2.1 (own s.2.2.2.2.2.2.1 (Int.tmod c 2) i))) (n:=s.2.2.2.2.2.2.1.length) (y:=((c,(),()),Cc (fun i=>(s.2.2.2.2.2.2.1.getD i zS).1) s.2.2.2.2.2.2.1 (own s.2.2.2.2.2.2.1 (Int.tmod c 2) s.2.2.2.2.2.2.1.length),s)) (fun i hi=>by
  have ol:=Y9 s.2.2.2.2.2.2.1 (Int.tmod c 2) i
  have hm:decide ((Cc (fun i=>(s.2.2.2.2.2.2.1.getD i zS).1) s.2.2.2.2.2.2.1 (own s.2.2.2.2.2.2.1 (Int.tmod c 2) i)).length+1≤eV)=true:=by rw[IX];unfold eV;exact zdt
  have jb:E0 (s.2.2.2.2.2.2.1.getD i zS)=some (((s.2.2.2.2.2.2.1.getD i zS).1,3-(s.2.2.2.2.2.2.1.getD i zS).2.2.2.2.1,(s.2.2.2.2.2.2.1.getD i zS).2.2.2.2.2.1,()),()):=by
   simp only[E0,wD (I.wd i hi)]
  rw[ag5]
  unfold hs
  cases e:(Int.tmod (s.2.2.2.2.2.2.1.getD i zS).1 2==Int.tmod c 2) with
  |true=>
   simp only[dW,Cc,zl54,mT,List.map_nil]
   unfold Cc at hm
   unfold zS at e jb hm ⊢
   simp only[Kq,gl hi,g0,zl94,hh,zov (hh _),e,jb,zov jb,hm,Ax,zw (i:=i)]
  |false=>
   simp only[pO,jM]
   unfold zS at e ⊢
   simp only[Kq,gl hi,g0,zl94,hh,zov (hh _),e,Ax,pO,zw (i:=i)]) (by
  have d1:decide ((s.2.2.2.2.2.2.1.length:Int)<(s.2.2.2.2.2.2.1.length:Int))=false:=zdf
  simp only[Kq,d1,pO,ia]) 0 (lB _)
 have q':Comes Kq ((0,(),(),c),s,[]) _:=q
 unfold isB nxt
 cases e:CD (vO s.2.2.2.2.2.2.1 (own s.2.2.2.2.2.2.1 (Int.tmod c 2) s.2.2.2.2.2.2.1.length)) (own s.2.2.2.2.2.2.1 (Int.tmod c 2) s.2.2.2.2.2.2.1.length).length with
 |none=>
  rw[e] at jo
  simp only[G3,cb q',cv q',dW,jo,zov jo,Fk,zU]
  rfl
 |some k=>
  have hk:=Lz e
  have hk':k<(Cc (fun i=>(s.2.2.2.2.2.2.1.getD i zS).1) s.2.2.2.2.2.2.1 (own s.2.2.2.2.2.2.1 (Int.tmod c 2) s.2.2.2.2.2.2.1.length)).length:=by rw[IX];exact hk
  have d:decide ((k:Int)≥0)=true:=zdt
  have g:=P5 (fun i=>(s.2.2.2.2.2.2.1.getD i zS).1) s.2.2.2.2.2.2.1 _ _ hk
  unfold zJ at g
  rw[e] at jo
  dsimp only[Cr,Option.map] at jo ⊢
  simp only[G3,cb q',cv q',jo,zov jo,Ax,d,zl94,gl hk',g,zl70,zl71]
def lvl (b:Bu)(now:Int):Int:=IntKind.wrap .i64 (b.1+IntKind.wrap .i64 (b.2.2.1*IntKind.wrap .i64 (now-b.2.2.2.1)))
def bV (b:Bu)(now:Int):Bu:=(if b.2.1<lvl b now then b.2.1 else lvl b now,b.2.1,b.2.2.1,now,b.2.2.2.2)
def acQ (b:Bu)(now:Int):G_ (b,now)=some (bV b now,()):=by
 unfold bV
 by_cases h:b.2.1<lvl b now
 ·have d:decide (lvl b now>b.2.1)=true:=zl86 h
  rw[bQ h]
  unfold lvl at d
  simp only[G_,d,dW]
 ·have d:decide (lvl b now>b.2.1)=false:=zl90 h
  rw[cT h]
  unfold lvl at d ⊢
  simp only[G_,d,pO]
noncomputable def szV (L:Nat):Int:=(zog Ch (L:Int)).1.2.1
noncomputable def OX (fT:List It) (e:Int):Int:=match D4 fT e with
 |some i=>szV (fT.getD i z0).2.2.2.1.length
 |none=>0
def ahg {L:Nat}(h1:1≤L)(hL:L≤300):∃P:gv.D,Ch (L:Int)=some (P,())∧q90 (L:Int)=some (P,())∧P.2.1=szV L:=by
 obtain⟨P,_,a,b⟩:=Zt L h1 hL
 exact⟨P,a,b,by unfold szV;rw[zov a]⟩
def Yb {c:Ct}(I:BK c){i:Nat}(h:i<c.2.1.length):(0≤(c.2.1.getD i z0).1∧(c.2.1.getD i z0).1≤1)∧1≤(c.2.1.getD i z0).2.2.2.1.length∧(c.2.1.getD i z0).2.2.2.1.length≤300:=by
 have m:c.2.1.getD i z0∈c.2.1:=by rw[getD_eq _ _ _ h];exact zl96 h
 have:=Ji (I.ok _ m)
 exact⟨this.1,this.2.2⟩
noncomputable def Iz (B:List Bu) (fT:List It) (S:List Sv) (k:Nat):Bool:=
 isB S (hs S k) (S.getD k zS).1&&decide ((B.getD (hs S k).toNat zB).1≥OX fT (S.getD k zS).2.2.1)
noncomputable def Dg (B:List Bu) (fT:List It) (S:List Sv) (i:Nat):List Nat:=(List.range i).filter (Iz B fT S)
def ajo (B:List Bu)(fT:List It)(S:List Sv)(i:Nat):Dg B fT S (i+1)=Dg B fT S i++(bif Iz B fT S i then [i] else []):=by
 unfold Dg
 rw[List.range_succ,List.filter_append]
 cases e:Iz B fT S i<;>simp[e]
def acM (B:List Bu)(fT:List It)(S:List Sv)(i:Nat):(Dg B fT S i).length≤i:=by
 have:=List.length_filter_le (Iz B fT S) (List.range i)
 rw[List.length_range] at this
 exact this
def acN {B:List Bu}{fT:List It}{S:List Sv}{n k:Nat}:k∈Dg B fT S n↔k<n∧Iz B fT S k=true:=by
 unfold Dg;rw[List.mem_filter,List.mem_range]
def hs_b {S:List Sv}{now:Int}(I:EN S now){k:Nat}(h:k<S.length):hs S k=0∨hs S k=1:=by
 have:=I.cl k h
 unfold hs
 rw[Int.tmod_eq_emod_of_nonneg this.1];omega
def ajI (s:b7.D)(I:EN s.2.2.2.2.2.2.1 s.2.1)(C:BK s.2.2.2.1)(hB:s.2.2.2.2.2.1.length=2) :
  L7 s=some (Cc (fun i=>(s.2.2.2.2.2.2.1.getD i zS).1) s.2.2.2.2.2.2.1 (Dg s.2.2.2.2.2.1 s.2.2.2.1.2.1 s.2.2.2.2.2.2.1 s.2.2.2.2.2.2.1.length),()):=by
 have hS:=I.len
 have hl:=C.len
 have hh (x:Int):Ci x=some (Int.tmod x 2,()):=rfl
 have q:=A_ (r:=H7) (fun i=>(((i:Int),(),()),Cc (fun i=>(s.2.2.2.2.2.2.1.getD i zS).1) s.2.2.2.2.2.2.1 (Dg s.2.2.2.2.2.1 s.2.2.2.1.2.1 s.2.2.2.2.2.2.1 i),s)) (n:=s.2.2.2.2.2.2.1.length)
  (y:=((),Cc (fun i=>(s.2.2.2.2.2.2.1.getD i zS).1) s.2.2.2.2.2.2.1 (Dg s.2.2.2.2.2.1 s.2.2.2.1.2.1 s.2.2.2.2.2.2.1 s.2.2.2.2.2.2.1.length))) (fun i hi=>by
  have ol:=acM s.2.2.2.2.2.1 s.2.2.2.1.2.1 s.2.2.2.2.2.2.1 i
  have hm:decide ((Cc (fun i=>(s.2.2.2.2.2.2.1.getD i zS).1) s.2.2.2.2.2.2.1 (Dg s.2.2.2.2.2.1 s.2.2.2.1.2.1 s.2.2.2.2.2.2.1 i)).length+1≤eV)=true:=by rw[IX];unfold eV;exact zdt
  have jb:E0 (s.2.2.2.2.2.2.1.getD i zS)=some (((s.2.2.2.2.2.2.1.getD i zS).1,3-(s.2.2.2.2.2.2.1.getD i zS).2.2.2.2.1,(s.2.2.2.2.2.2.1.getD i zS).2.2.2.2.2.1,()),()):=by
   simp only[E0,wD (I.wd i hi)]
  have bt:=ajx s I (s.2.2.2.2.2.2.1.getD i zS).1
  have ed:=Rm s.2.2.2.1 (s.2.2.2.2.2.2.1.getD i zS).2.2.1 (by omega)
  have hb:=hs_b I hi
  have hk:(hs s.2.2.2.2.2.2.1 i).toNat<s.2.2.2.2.2.1.length:=by omega
  have hk0:decide (0≤hs s.2.2.2.2.2.2.1 i)=true:=zdt
  have hk1:decide (hs s.2.2.2.2.2.2.1 i<(s.2.2.2.2.2.1.length:Int))=true:=zdt
  rw[ajo]
  have key:Cc (fun i=>(s.2.2.2.2.2.2.1.getD i zS).1) s.2.2.2.2.2.2.1 (Dg s.2.2.2.2.2.1 s.2.2.2.1.2.1 s.2.2.2.2.2.2.1 i++(bif Iz s.2.2.2.2.2.1 s.2.2.2.1.2.1 s.2.2.2.2.2.2.1 i then [i] else []))
    = bif Iz s.2.2.2.2.2.1 s.2.2.2.1.2.1 s.2.2.2.2.2.2.1 i then Cc (fun i=>(s.2.2.2.2.2.2.1.getD i zS).1) s.2.2.2.2.2.2.1 (Dg s.2.2.2.2.2.1 s.2.2.2.1.2.1 s.2.2.2.2.2.2.1 i) ++ [((s.2.2.2.2.2.2.1.getD i zS).1,3-(s.2.2.2.2.2.2.1.getD i zS).2.2.2.2.1,(s.2.2.2.2.2.2.1.getD i zS).2.2.2.2.2.1,())] else Cc (fun i=>(s.2.2.2.2.2.2.1.getD i zS).1) s.2.2.2.2.2.2.1 (Dg s.2.2.2.2.2.1 s.2.2.2.1.2.1 s.2.2.2.2.2.2.1 i):=by
   cases Iz s.2.2.2.2.2.1 s.2.2.2.1.2.1 s.2.2.2.2.2.2.1 i
   ·simp only[pO,jM]
   ·simp only[dW,Cc,zl54,mT,List.map_nil]
  rw[key]
  generalize Cc (fun i=>(s.2.2.2.2.2.2.1.getD i zS).1) s.2.2.2.2.2.2.1 (Dg s.2.2.2.2.2.1 s.2.2.2.1.2.1 s.2.2.2.2.2.2.1 i)=J at *
  unfold Iz
  unfold hs at hk hk0 hk1 ⊢
  generalize isB s.2.2.2.2.2.2.1 (Int.tmod (s.2.2.2.2.2.2.1.getD i zS).1 2) (s.2.2.2.2.2.2.1.getD i zS).1=bb at *
  cases h:D4 s.2.2.2.1.2.1 (s.2.2.2.2.2.2.1.getD i zS).2.2.1 with
  |none=>
   rw[h] at ed
   dsimp only[HG,Option.isSome] at ed
   have ez:OX s.2.2.2.1.2.1 (s.2.2.2.2.2.2.1.getD i zS).2.2.1=0:=by unfold OX;rw[h]
   rw[ez]
   unfold zS at *
   unfold zB
   cases bb with
   |false=>
    simp only[H7,gl hi,g0,zl94,hh,zov (hh _),ed,zov ed,bt,zov bt,zl98,zl76,zl93,Ax,pO,zw (i:=i)]
   |true=>
    simp only[H7,gl hi,g0,zl94,hh,zov (hh _),ed,zov ed,bt,zov bt,hk0,hk1,zl70,zl71,zl108,Ax,pO,zw (i:=i),jb,zov jb,hm]
    cases decide ((List.getD s.2.2.2.2.2.1 (Int.tmod (List.getD s.2.2.2.2.2.2.1 i ((0:Int),(0:Int),(0:Int),(0:Int),(0:Int),(0:Int),())).1 2).toNat ((0:Int),(0:Int),(0:Int),(0:Int),())).1≥0)<;>rfl
  |some j=>
   rw[h] at ed
   have hj:=Sr h
   obtain⟨_,l1,l2⟩:=Yb C hj
   obtain⟨P,p1,_,p3⟩:=ahg l1 l2
   dsimp only[HG,Option.isSome] at ed
   have ez:OX s.2.2.2.1.2.1 (s.2.2.2.2.2.2.1.getD i zS).2.2.1=P.2.1:=by unfold OX;rw[h];exact p3.symm
   rw[ez]
   unfold z0 at ed p1
   unfold zS at *
   unfold zB
   cases bb with
   |false=>
    simp only[H7,gl hi,g0,zl94,hh,zov (hh _),ed,zov ed,p1,bt,zov bt,zl98,zl76,zl93,Ax,pO,zw (i:=i)]
   |true=>
    simp only[H7,gl hi,g0,zl94,hh,zov (hh _),ed,zov ed,p1,zov p1,bt,zov bt,hk0,hk1,zl70,zl71,zl108,Ax,zw (i:=i),jb,zov jb,hm]
    cases decide ((List.getD s.2.2.2.2.2.1 (Int.tmod (List.getD s.2.2.2.2.2.2.1 i ((0:Int),(0:Int),(0:Int),(0:Int),(0:Int),(0:Int),())).1 2).toNat ((0:Int),(0:Int),(0:Int),(0:Int),())).1≥P.2.1)<;>rfl) (by
  have d1:decide ((s.2.2.2.2.2.2.1.length:Int)<(s.2.2.2.2.2.2.1.length:Int))=false:=zdf
  simp only[H7,d1,pO,ia]) 0 (lB _)
 have q':Comes H7 ((0,(),()),[],s) _:=q
 simp only[L7,cb q',cv q',dW,ia]
section
variable (now:Int) (log:List UInt8) (cl hd:Int) (fT:List It) (fr:List Fr) (S:List Sv)
def aj3 (b0 b1:Bu) :
  Comes OG (((0:Int),(),()),(true,now,log,(cl,(),()),((),hd,()),(),(),()),(false,(0:Int),[],((0:Int),(),()),((),(0:Int),()),(),(),()),fT,fr,[b0,b1],S,[],[],[],[])
   (((),()),(false,(0:Int),[],((0:Int),(),()),((),(0:Int),()),(),(),()),(true,now,log,(cl,(),()),((),hd,()),(),(),()),[],[],[],[],fT,fr,[bV b0 now,bV b1 now],S):=by
 have e0:=acQ b0 now
 have e1:=acQ b1 now
 refine .again (x':=(((1:Int),(),()),(true,now,log,(cl,(),()),((),hd,()),(),(),()),(false,(0:Int),[],((0:Int),(),()),((),(0:Int),()),(),(),()),fT,fr,[bV b0 now,b1],S,[],[],[],[])) ?_
  (.again (x':=(((2:Int),(),()),(true,now,log,(cl,(),()),((),hd,()),(),(),()),(false,(0:Int),[],((0:Int),(),()),((),(0:Int),()),(),(),()),fT,fr,[bV b0 now,bV b1 now],S,[],[],[],[])) ?_ (.out rfl))
 ·have f:G_ (List.getD [b0,b1] (Int.toNat 0) ((0:Int),(0:Int),(0:Int),(0:Int),()),now)=some (bV b0 now,()):=e0
  simp only[OG,f,zov f,Fk,ia]
  rfl
 ·have f:G_ (List.getD [bV b0 now,b1] (Int.toNat 1) ((0:Int),(0:Int),(0:Int),(0:Int),()),now)=some (bV b1 now,()):=e1
  simp only[OG,f,zov f,Fk,ia]
  rfl
variable (up0:Bool) (now0:Int) (log0:List UInt8) (cl0 hd0:Int) (its0:List It) (fr0:List Fr) (bks0:List Bu) (AV:List Sv) (rd:List Int) (B:List Bu)
end
def ajw (s:b7.D){now:Int}(I:EN s.2.2.2.2.2.2.1 now)(k:Nat)(hk:k<s.2.2.2.2.2.2.1.length):Ga (s,(s.2.2.2.2.2.2.1.getD k zS).1)=some ((k:Int),()):=by
 have hS:=I.len
 have q:=El (r:=Fv) (fun i=>(((i:Int),(s.2.2.2.2.2.2.1.getD k zS).1,()),s)) (n:=s.2.2.2.2.2.2.1.length) (p:=fun i=>(s.2.2.2.2.2.2.1.getD i zS).1==(s.2.2.2.2.2.2.1.getD k zS).1) (yt:=fun i=>.inl ((i:Int),())) (yn:=.inr ((),())) (fun i hi hp=>by
   unfold zS at hp ⊢
   simp only[Fv,gl hi,g0,zl94,hp,zU,zl92,dW,pO,zw (i:=i)]) (fun i hi hp=>by
   unfold zS at hp ⊢
   simp only[Fv,gl hi,g0,zl94,hp,zU,zl92,dW]) (by
   have d1:decide ((s.2.2.2.2.2.2.1.length:Int)<(s.2.2.2.2.2.2.1.length:Int))=false:=zdf
   simp only[Fv,d1,pO])
 have f:first s.2.2.2.2.2.2.1.length (fun i=>(s.2.2.2.2.2.2.1.getD i zS).1==(s.2.2.2.2.2.2.1.getD k zS).1)=some k:=CE.2 ⟨hk,zl95 _,fun j hj=>by
  rw[zl89]
  have:=I.AQ j k hj hk
  omega⟩
 rw[f] at q
 have q':Comes Fv ((0,(s.2.2.2.2.2.2.1.getD k zS).1,()),s) (.inl ((k:Int),())):=q
 simp only[Ga,cb q',cv q',dW,ia]
def wo (S:List Sv)(c:Int)(i:Nat):List Sv:=(S.take i).filter fun v=>v.1 != c
def akE (S:List Sv)(c:Int)(i:Nat)(h:i<S.length):wo S c (i+1)=wo S c i++(bif(S.getD i zS).1 != c then [S.getD i zS] else []):=by
 unfold wo
 rw[zl88 h,List.filter_append,getD_eq _ _ _ h]
 cases e:(S[i].1 != c)<;>simp[e]
def UE (S:List Sv)(c:Int)(i:Nat):(wo S c i).length≤i:=by
 have:=List.length_filter_le (fun v:Sv=>v.1 != c) (S.take i)
 rw[zl3] at this
 unfold wo;omega
def wo_all {S:List Sv}{now:Int}(I:EN S now)(k:Nat)(hk:k<S.length):wo S (S.getD k zS).1 S.length=S.eraseIdx k:=by
 have sp:S=S.take k++S.getD k zS::S.drop (k+1):=by
  rw[getD_eq _ _ _ hk,←zl109 hk,zl68]
 have f1:∀v∈S.take k,(v.1 != (S.getD k zS).1)=true:=fun v hv=>by
  obtain⟨i,hi,rfl⟩:=List.mem_iff_getElem.1 hv
  rw[zl3] at hi
  have:=I.AQ i k (by omega) hk
  rw[getD_eq _ _ _ (show i<S.length by omega)] at this
  rw[List.getElem_take]
  simp only[bne_iff_ne];omega
 have f2:∀v∈S.drop (k+1),(v.1 != (S.getD k zS).1)=true:=fun v hv=>by
  obtain⟨i,hi,rfl⟩:=List.mem_iff_getElem.1 hv
  rw[zl4] at hi
  have:=I.AQ k (k+1+i) (by omega) (by omega)
  rw[getD_eq S (k+1+i) _ (show k+1+i<S.length by omega)] at this
  rw[List.getElem_drop]
  simp only[bne_iff_ne];omega
 unfold wo
 rw[zl102,zl112]
 generalize (S.getD k zS)=x at *
 conv=>lhs;rw[sp]
 rw[List.filter_append,List.filter_cons,List.filter_eq_self.2 f1,List.filter_eq_self.2 f2]
 simp
def Rp (s:b7.D)(hS:s.2.2.2.2.2.2.1.length≤100000)(c:Int):Hg (s,c)=some ((s.1,s.2.1,s.2.2.1,s.2.2.2.1,s.2.2.2.2.1,s.2.2.2.2.2.1,wo s.2.2.2.2.2.2.1 c s.2.2.2.2.2.2.1.length,s.2.2.2.2.2.2.2),()):=by
 have q:=A_ (r:=K3) (fun i=>(((i:Int),(),(),c,()),s,wo s.2.2.2.2.2.2.1 c i,(false,(0:Int),[],((0:Int),(),()),((),(0:Int),()),(),(),()),[],[],[],[])) (n:=s.2.2.2.2.2.2.1.length)
  (y:=(((),(),()),(false,(0:Int),[],((0:Int),(),()),((),(0:Int),()),(),(),()),s,wo s.2.2.2.2.2.2.1 c s.2.2.2.2.2.2.1.length,[],[],[],[])) (fun i hi=>by
  have wl:=UE s.2.2.2.2.2.2.1 c i
  have hm:decide ((wo s.2.2.2.2.2.2.1 c i).length+1≤eV)=true:=by unfold eV;exact zdt
  rw[akE _ _ _ hi]
  generalize wo s.2.2.2.2.2.2.1 c i=L at *
  unfold zS
  cases e:((List.getD s.2.2.2.2.2.2.1 i ((0:Int),(0:Int),(0:Int),(0:Int),(0:Int),(0:Int),())).1 != c) with
  |true=>simp only[K3,gl hi,g0,zl94,e,hm,zU,zl92,dW,zw (i:=i)]
  |false=>simp only[K3,gl hi,g0,zl94,e,zU,zl92,dW,pO,jM,zw (i:=i)]) (by
  have d1:decide ((s.2.2.2.2.2.2.1.length:Int)<(s.2.2.2.2.2.2.1.length:Int))=false:=zdf
  simp only[K3,d1,pO]) 0 (lB _)
 have q':Comes K3 ((0,(),(),c,()),s,[],(false,(0:Int),[],((0:Int),(),()),((),(0:Int),()),(),(),()),[],[],[],[]) _:=q
 simp only[Hg,cb q',cv q',dW,ia]
structure TickI (now cl hd:Int) (fT:List It) (l:List Fr) (h:Nat) (S:List Sv):Prop where
 nw0:0≤now
 Au:EN S now
 cat:BK (cl,fT,())
 hde:hd=(h:Int)
 G1:Ca l h
 free:IG l
 ed:∀i,i<S.length→1≤(S.getD i zS).2.2.1∧(S.getD i zS).2.2.1≤cl
 nx:∀i,i<S.length→0≤(S.getD i zS).2.2.2.1∧(S.getD i zS).2.2.2.1≤9999
 hse:∀i,i<S.length→∀j,D4 fT (S.getD i zS).2.2.1=some j→(fT.getD j z0).1=Int.tmod (S.getD i zS).1 2
section
variable {now cl hd:Int} {log:List UInt8} {fT:List It} {l:List Fr} {h:Nat} {S:List Sv} {B:List Bu}
end
def ok_up {now cl:Int}{log:List UInt8}{fT:List It}{p:Po}{bk:List Bu}{S:List Sv}(ok:AL (true,now,log,(cl,fT,()),p,bk,S,())=true)(h9:now<99999)(hl:S.length≤9999999) :
  ∃(l:List Fr) (h:Nat) (b0 b1:Bu),p=(l,(h:Int),())∧bk = [b0,b1]∧TickI (now+1) cl (h:Int) fT l h S∧IK b0=true∧IK b1=true∧b0.2.2.2.1≤now+1∧b1.2.2.2.1≤now+1∧1≤now+1:=by
 have C:=EX ok
 unfold AL at ok
 simp only[bB] at ok
 obtain⟨n0,_,_,up⟩:=ok
 have n0:=zl79 n0
 simp only[dW,upV,bB,zl78] at up
 obtain⟨_,_,pv,bl,sv,fv,bv⟩:=up
 obtain⟨h,pe,G⟩:=ahi pv
 have n0:0≤now∧now≤99999:=n0
 have bl:bk.length=2:=bl
 match bk,bl with
 | [b0,b1],_=>
 have bq:=wh.1 bv
 have sq:=wh.1 sv
 have fq:=wh.1 fv
 have bz:∀b:Bu,(!JW now b)=true→IK b=true∧b.2.2.2.1≤now:=fun b q=>by
  unfold JW at q
  cases e:IK b with
  |false=>rw[e] at q;cases q
  |true=>
   rw[e] at q
   cases e1:(b.2.1 != 40) with
   |true=>rw[e1] at q;cases q
   |false=>
    cases e2:(b.2.2.1 != 8) with
    |true=>rw[e1,e2] at q;cases q
    |false=>
     cases e3:decide (b.2.2.2.1>now) with
     |true=>rw[e1,e2,e3] at q;cases q
     |false=>exact⟨rfl,by have:=zl101 e3;omega⟩
 have z0_:=bz b0 (bq 0 (by show 0<2;omega))
 have z1_:=bz b1 (bq 1 (by show 1<2;omega))
 have sx:∀i,i<S.length→EK (cl,fT,()) now S i=false:=fun i hi=>by
  have:=sq i hi
  cases e:EK (cl,fT,()) now S i with
  |false=>rfl
  |true=>have this:(!EK (cl,fT,()) now S i)=true:=this;rw[e] at this;cases this
 have sy:∀i,i<S.length→(0≤(S.getD i zS).1∧(S.getD i zS).1≤3)∧Ow S i (S.getD i zS).1=false∧(1≤(S.getD i zS).2.2.1∧(S.getD i zS).2.2.1≤cl)∧(0≤(S.getD i zS).2.2.2.1∧(S.getD i zS).2.2.2.1≤9999)∧(0≤(S.getD i zS).2.2.2.2.1∧(S.getD i zS).2.2.2.2.1≤3)∧(0≤(S.getD i zS).2.2.2.2.2.1∧(S.getD i zS).2.2.2.2.2.1≤now)∧NC (cl,fT,()) (S.getD i zS)=false:=fun i hi=>by
  have q:=sx i hi
  unfold EK at q
  simp only[ry,Bool.not_eq_false'] at q
  obtain⟨⟨⟨⟨⟨⟨⟨q1,q2⟩,_⟩,q3⟩,q4⟩,q5⟩,q6⟩,q7⟩:=q
  exact⟨zl79 q1,q2,zl79 q3,zl79 q4,zl79 q5,zl79 q6,q7⟩
 have nxt_:∀i,i+1<S.length→(S.getD i zS).1<(S.getD (i+1) zS).1:=fun i hi=>by
  have q:=(sy (i+1) hi).2.1
  have:=zl101 q
  omega
 have AQ:∀d i,i+1+d<S.length→(S.getD i zS).1<(S.getD (i+1+d) zS).1:=by
  intro d
  induction d with
  |zero=>intro i hi;exact nxt_ i hi
  |succ d ih=>
   intro i hi
   have a:=ih i (by omega)
   have b:=nxt_ (i+1+d) (by omega)
   rw[show i+1+(d+1)=i+1+d+1 by omega]
   omega
 have cl3:S.length≤100000:=by
  by_cases q:S.length≤100000
  ·exact q
  ·exfalso
   have h1:=AQ 0 0 (by omega)
   have h2:=AQ 0 1 (by omega)
   have h3:=AQ 0 2 (by omega)
   have h4:=AQ 0 3 (by omega)
   have:=(sy 0 (by omega)).1
   have:=(sy 4 (by omega)).1
   simp only[Nat.reduceAdd] at h1 h2 h3 h4
   omega
 have fr:IG p.1:=fun i hi=>by
  have hd:=(G.held i hi).1
  have q:=fq i (by show i<p.1.length;rw[G.len];exact hi)
  cases e:decide ((p.1.getD i zF).2.2.2.1>0) with
  |false=>have:=zl101 e;omega
  |true=>
   have q:(!JZ (cl,fT,()) (p.1.getD i zF))=true:=q
   unfold JZ at q
   rw[e] at q;cases q
 refine⟨p.1,h,b0,b1,pe,rfl,⟨by omega,⟨cl3,by omega,fun i hi=>(sy i hi).1,fun i j hij hj=>?_,fun i hi=>(sy i hi).2.2.2.2.1,fun i hi=>?_⟩,C,rfl,G,fr,fun i hi=>(sy i hi).2.2.1,fun i hi=>(sy i hi).2.2.2.1,fun i hi j hj=>?_⟩,z0_.1,z1_.1,by omega,by omega,by omega⟩
 ·have:=AQ (j-i-1) i (by omega)
  rwa[show i+1+(j-i-1)=j by omega] at this
 ·have:=(sy i hi).2.2.2.2.2.1;omega
 ·have q:=(sy i hi).2.2.2.2.2.2
  unfold NC at q
  dsimp only at q
  rw[hj] at q
  simpa[HG] using q
def Ej (w:eL.D):Bool:=
 ((((m6 w.2.1 0 99999&&m6 w.2.2.1 1 99999)&&m6 w.2.2.2.1 0 99999)&&m6 w.2.2.2.2.1 0 99999) && !decide ((w.2.2.2.2.2.2.1.length:Int)>80)) &&
 (bif w.1==1 then EA w.2.2.2.2.2.1&&(w.2.2.2.2.1==0&&w.2.2.2.2.2.2.1 == []) else(w.2.2.2.2.2.1 == [] &&
  (bif w.1==6 then w.2.2.2.2.1==0&&w.2.2.2.2.2.2.1 == [] else bif w.1==2 then decide (w.2.2.2.1>0)&&(w.2.2.2.2.1==0 && !(w.2.2.2.2.2.2.1 == [])) else bif w.1==3 then decide (w.2.2.2.1>0) && !(w.2.2.2.2.2.2.1 == []) else
   bif w.1==4 then decide (w.2.2.2.1>0)&&w.2.2.2.2.2.2.1 == [] else bif w.1==5 then decide (w.2.2.2.1>0)&&w.2.2.2.2.2.2.1 == [] else false)))
def O3 (w:eL.D)(hn:w.2.2.2.2.2.1.length≤9999999):EE w=some (Ej w,()):=by
 have nm:=Rn w.2.2.2.2.2.1 hn
 unfold Ej
 simp only[EE,B4,zov (B4 _ _ _),nm,zov nm,zl99,Ax]
 cases m6 w.2.1 0 99999
 ·rfl
 cases m6 w.2.2.1 1 99999
 ·rfl
 cases m6 w.2.2.2.1 0 99999
 ·rfl
 cases m6 w.2.2.2.2.1 0 99999
 ·rfl
 cases decide ((w.2.2.2.2.2.2.1.length:Int)>80)
 ·simp only[zl70,zl98,pO,zl92,zl108]
  cases (w.1==(1:Int))
  ·simp only[pO,dW,zl98]
   cases (w.2.2.2.2.2.1 == [])
   ·rfl
   ·simp only[zl70,pO,zl108]
    cases (w.1==(6:Int))
    ·cases (w.1==(2:Int))
     ·cases (w.1==(3:Int))
      ·cases (w.1==(4:Int))
       ·cases (w.1==(5:Int))
        ·rfl
        ·cases decide (w.2.2.2.1>0)<;>rfl
       ·cases decide (w.2.2.2.1>0)<;>rfl
      ·cases decide (w.2.2.2.1>0)<;>rfl
     ·cases decide (w.2.2.2.1>0)<;>cases (w.2.2.2.2.1==0)<;>rfl
    ·cases (w.2.2.2.2.1==0)<;>rfl
  ·simp only[dW,zl70,pO]
   cases EA w.2.2.2.2.2.1
   ·rfl
   ·cases (w.2.2.2.2.1==0)<;>rfl
 ·rfl
def mr (n:Nat)(h:n≤100000):decide (n≤eV)=true:=by unfold eV;exact zdt
def HN (a b:Sv):Bool:=decide (a.1<b.1)
def posO (S:List Sv)(c:Int):Option Nat:=first S.length (fun i=> !decide ((S.getD i zS).1<c))
def Ko (S:List Sv)(c:Int):Nat:=match posO S c with
 |some i=>i
 |none=>S.length
def ahj (S:List Sv)(c:Int):Ko S c≤S.length:=by
 unfold Ko
 cases e:posO S c with
 |none=>exact bA _
 |some i=>have:=(CE.1 e).1;dsimp only;omega
def P4 (S:List Sv)(v:Sv):List Sv:=S.take (Ko S v.1)++v::S.drop (Ko S v.1)
def ac9 {S:List Sv}{now:Int}(I:EN S now):S.length≤4:=by
 have st:∀d i,i+d<S.length→(S.getD i zS).1+(d:Int)≤(S.getD (i+d) zS).1:=by
  intro d
  induction d with
  |zero=>intro i hi;simp
  |succ d ih=>
   intro i hi
   have a:=ih i (by omega)
   have b:=I.AQ (i+d) (i+(d+1)) (by omega) hi
   omega
 by_cases q:S.length≤4
 ·exact q
 ·exfalso
  have h:=st 4 0 (by omega)
  have h0:=(I.cl 0 (by omega)).1
  have h4:=(I.cl (0+4) (by omega)).2
  omega
def svO (S:List Sv)(c:Int):Option Nat:=first S.length (fun i=>(S.getD i zS).1==c)
def ac2 (s:b7.D)(hS:s.2.2.2.2.2.2.1.length≤100000)(c:Int):Ga (s,c)=some (Cr (svO s.2.2.2.2.2.2.1 c),()):=by
 have q:=El (r:=Fv) (fun i=>(((i:Int),c,()),s)) (n:=s.2.2.2.2.2.2.1.length) (p:=fun i=>(s.2.2.2.2.2.2.1.getD i zS).1==c) (yt:=fun i=>.inl ((i:Int),())) (yn:=.inr ((),())) (fun i hi hp=>by
   unfold zS at hp
   simp only[Fv,gl hi,g0,zl94,hp,zU,zl92,dW,pO,zw (i:=i)]) (fun i hi hp=>by
   unfold zS at hp
   simp only[Fv,gl hi,g0,zl94,hp,zU,zl92,dW]) (by
   have d1:decide ((s.2.2.2.2.2.2.1.length:Int)<(s.2.2.2.2.2.2.1.length:Int))=false:=zdf
   simp only[Fv,d1,pO])
 have q':Comes Fv ((0,c,()),s) _:=q
 simp only[Ga,cb q',cv q',dW,svO,ia]
 cases first s.2.2.2.2.2.2.1.length (fun i=>(s.2.2.2.2.2.2.1.getD i zS).1==c)<;>rfl
def ajV (s:b7.D)(hS:s.2.2.2.2.2.2.1.length≤1000)(v:Sv):Ma (s,v)=some ((s.1,s.2.1,s.2.2.1,s.2.2.2.1,s.2.2.2.2.1,s.2.2.2.2.2.1,P4 (wo s.2.2.2.2.2.2.1 v.1 s.2.2.2.2.2.2.1.length) v,s.2.2.2.2.2.2.2),()):=by
 have w:=Rp s (by omega) v.1
 have wl:=UE s.2.2.2.2.2.2.1 v.1 s.2.2.2.2.2.2.1.length
 generalize wo s.2.2.2.2.2.2.1 v.1 s.2.2.2.2.2.2.1.length=L at *
 have q:=El (r:=Kw) (fun i=>(((i:Int),(),(),()),(false,(0:Int),[],((0:Int),(),()),((),(0:Int),()),(),(),()),(s.1,s.2.1,s.2.2.1,s.2.2.2.1,s.2.2.2.2.1,s.2.2.2.2.2.1,(),s.2.2.2.2.2.2.2),v,[],[],[],[],L)) (n:=L.length) (p:=fun i=> !decide ((L.getD i zS).1<v.1))
  (yt:=fun i=>(((),(),(i:Int),()),(false,(0:Int),[],((0:Int),(),()),((),(0:Int),()),(),(),()),(s.1,s.2.1,s.2.2.1,s.2.2.2.1,s.2.2.2.2.1,s.2.2.2.2.2.1,(),s.2.2.2.2.2.2.2),v,[],[],[],[],L)) (yn:=(((),(),(L.length:Int),()),(false,(0:Int),[],((0:Int),(),()),((),(0:Int),()),(),(),()),(s.1,s.2.1,s.2.2.1,s.2.2.2.1,s.2.2.2.2.1,s.2.2.2.2.2.1,(),s.2.2.2.2.2.2.2),v,[],[],[],[],L)) (fun i hi hp=>by
   have hp':decide ((L.getD i zS).1<v.1)=true:=by simpa using hp
   unfold zS at hp'
   simp only[Kw,gl hi,g0,zl94,hp',zl99,zU,zl92,dW,zw (i:=i)]) (fun i hi hp=>by
   have hp':decide ((L.getD i zS).1<v.1)=false:=by simpa using hp
   unfold zS at hp'
   simp only[Kw,gl hi,g0,zl94,hp',zl99,zU,zl92,dW,pO]) (by
   have d1:decide ((L.length:Int)<(L.length:Int))=false:=zdf
   simp only[Kw,d1,g0,zl99,zl98,zl76,zU,zl92,dW,pO])
 have pl:=ahj L v.1
 have q':Comes Kw ((0,(),(),()),(false,(0:Int),[],((0:Int),(),()),((),(0:Int),()),(),(),()),(s.1,s.2.1,s.2.2.1,s.2.2.2.1,s.2.2.2.2.1,s.2.2.2.2.2.1,(),s.2.2.2.2.2.2.2),v,[],[],[],[],L) (((),(),(Ko L v.1:Int),()),(false,(0:Int),[],((0:Int),(),()),((),(0:Int),()),(),(),()),(s.1,s.2.1,s.2.2.1,s.2.2.2.1,s.2.2.2.2.1,s.2.2.2.2.2.1,(),s.2.2.2.2.2.2.2),v,[],[],[],[],L):=by
  unfold Ko posO
  revert q
  cases first L.length (fun i=> !decide ((L.getD i zS).1<v.1))<;>exact fun q=>q
 unfold P4
 generalize Ko L v.1=p at *
 have t0:Int.toNat ((p:Int)-0)=p:=by omega
 have t1:List.take (Int.toNat ((L.length:Int)-(p:Int))) (List.drop p L)=List.drop p L:=zl57 (by rw[zl4];omega)
 have t2:List.drop (Int.toNat (0:Int)) L=L:=rfl
 have b1:decide ((p:Int)≤(L.length:Int))=true:=zdt
 have b2:decide ((L.length:Int)≤(L.length:Int))=true:=zdt
 have m1:decide ((List.take p L ++ [v]).length+(List.drop p L).length≤eV)=true:=mr _ (by simp only[eY,zl103,zl3,zl4];omega)
 have m2:decide ((List.take p L).length+1≤eV)=true:=mr _ (by rw[zl3];omega)
 have m3:decide (0+(List.take p L).length≤eV)=true:=mr _ (by rw[zl3];omega)
 simp only[Ma,w,zov w,cb q',cv q',t0,t1,t2,zl94,zl17,b1,b2,m1,m2,m3,g0,Ax,cZ,zl104]
def adP {c:Ct}(I:BK c){h:Int}{n:List UInt8}(ha:C9 c.2.1 h n=none):Ee (c,h,n)=some ((z0,false),()):=by
 have c1:=OZ c h n (by have:=I.len;omega)
 have c2:=Nq c I
 rw[ha] at c1
 have dm:decide ((-1:Int)<0)=true:=by decide
 dsimp only[Cr] at c1
 simp only[Ee,c1,zov c1,c2,zov c2,Fk,zU,dW,zl70,pO,dm,z0]
def adQ {c:Ct}(I:BK c){h:Int}{n:List UInt8}{i:Nat}(ha:C9 c.2.1 h n=some i):i<c.2.1.length∧Ee (c,h,n)=some ((c.2.1.getD i z0,true),()):=by
 have c1:=OZ c h n (by have:=I.len;omega)
 have c2:=Nq c I
 rw[ha] at c1
 obtain⟨hi,_,_⟩:=R5 ha
 refine⟨hi,?_⟩
 have p3:decide ((i:Int)<0)=false:=zdf
 dsimp only[Cr] at c1
 simp only[Ee,c1,zov c1,c2,zov c2,Ax,zl70,pO,gl hi,g0,p3,zl94,z0]
section
variable {up:Bool} {now cl:Int} {log:List UInt8} {fT:List It} {p:Po} {bk:List Bu} {S:List Sv} {w:eL.D}
end
section
variable {up:Bool} {now cl:Int} {log:List UInt8} {fT:List It} {p:Po} {bk:List Bu} {S:List Sv} {w:eL.D}
end
def ok_srv {now cl:Int}{log:List UInt8}{fT:List It}{p:Po}{bk:List Bu}{S:List Sv}(ok:AL (true,now,log,(cl,fT,()),p,bk,S,())=true)(hl:S.length≤9999999):EN S now:=by
 have n0:0≤now∧now≤99999:=by
  have q:=ok
  unfold AL at q
  simp only[bB] at q
  exact zl79 q.1
 unfold AL at ok
 simp only[bB] at ok
 obtain⟨_,_,_,up⟩:=ok
 simp only[dW,upV,bB,zl78] at up
 obtain⟨_,_,_,_,sv,_,_⟩:=up
 have sq:=wh.1 sv
 have sx:∀i,i<S.length→EK (cl,fT,()) now S i=false:=fun i hi=>by
  have:=sq i hi
  cases e:EK (cl,fT,()) now S i with
  |false=>rfl
  |true=>have this:(!EK (cl,fT,()) now S i)=true:=this;rw[e] at this;cases this
 have sy:∀i,i<S.length→(0≤(S.getD i zS).1∧(S.getD i zS).1≤3)∧Ow S i (S.getD i zS).1=false∧(0≤(S.getD i zS).2.2.2.2.1∧(S.getD i zS).2.2.2.2.1≤3)∧(0≤(S.getD i zS).2.2.2.2.2.1∧(S.getD i zS).2.2.2.2.2.1≤now):=fun i hi=>by
  have q:=sx i hi
  unfold EK at q
  simp only[ry,Bool.not_eq_false'] at q
  obtain⟨⟨⟨⟨⟨⟨⟨q1,q2⟩,_⟩,_⟩,_⟩,q5⟩,q6⟩,_⟩:=q
  exact⟨zl79 q1,q2,zl79 q5,zl79 q6⟩
 have AQ:∀d i,i+1+d<S.length→(S.getD i zS).1<(S.getD (i+1+d) zS).1:=by
  intro d
  induction d with
  |zero=>
   intro i hi
   have q:=zl101 (sy (i+1) hi).2.1
   rw[zl50];omega
  |succ d ih=>
   intro i hi
   have a:=ih i (by omega)
   have b:=zl101 (sy (i+1+d+1) (by omega)).2.1
   rw[show i+1+(d+1)=i+1+d+1 by omega]
   omega
 have cl3:S.length≤100000:=by
  by_cases q:S.length≤100000
  ·exact q
  ·exfalso
   have h1:=AQ 0 0 (by omega)
   have h2:=AQ 0 1 (by omega)
   have h3:=AQ 0 2 (by omega)
   have h4:=AQ 0 3 (by omega)
   have:=(sy 0 (by omega)).1
   have:=(sy 4 (by omega)).1
   simp only[Nat.reduceAdd] at h1 h2 h3 h4
   omega
 refine⟨cl3,n0.2,fun i hi=>(sy i hi).1,fun i j hij hj=>?_,fun i hi=>(sy i hi).2.2.1,fun i hi=>(sy i hi).2.2.2⟩
 have:=AQ (j-i-1) i (by omega)
 rwa[show i+1+(j-i-1)=j by omega] at this
structure x4 (r:dj.D) (p:Nat):Prop where
 len:r.1.length≤2000
 GF:∀x∈r.1,0≤x∧x≤255
 p0:0≤r.2.1
 p1:r.2.1≤p
def xor_nn {a b:Int}(a0:0≤a)(a1:a<4611686018427387904)(b0:0≤b)(b1:b<4611686018427387904):0≤pZ .xor .i64 a b:=by
 obtain⟨m,rfl⟩:=Int.eq_ofNat_of_zero_le a0
 obtain⟨n,rfl⟩:=Int.eq_ofNat_of_zero_le b0
 unfold pZ
 have h1:(BitVec.ofInt IntKind.i64.bits (m:Int)).toNat=m:=by
  rw[BitVec.toNat_ofInt];simp only[IntKind.bits];omega
 have h2:(BitVec.ofInt IntKind.i64.bits (n:Int)).toNat=n:=by
  rw[BitVec.toNat_ofInt];simp only[IntKind.bits];omega
 have h3:m ^^^ n<2 ^ 62:=Nat.xor_lt_two_pow (by omega) (by omega)
 simp only[BitVec.toNat_xor,h1,h2]
 rw[wrap64 (by omega) (by omega)]
 omega
def R8 {l:List Int}(h:∀x∈l,0≤x∧x≤255)(i:Nat):0≤l.getD i 0∧l.getD i 0≤255:=by
 by_cases hi:i<l.length
 ·rw[getD_eq _ _ _ hi];exact h _ (zl96 hi)
 ·rw[zl26,zl8 (by omega)];simp
def Lj {a n:Int}(a0:0≤a)(h:1≤n):0≤Int.tmod a n∧Int.tmod a n<n:=⟨Int.tmod_nonneg _ a0,Int.tmod_lt_of_pos _ (by omega)⟩
def TS {r:dj.D}{p:Nat}(I:x4 r p)(hp:p≤1000000000)(n:Int) :
  ∃k r',m5 (r,n)=some (k,r',())∧0≤k∧(1≤n→k<n)∧(n<1→k=0)∧x4 r' (p+1):=by
 have p0:=I.p0
 have p1:=I.p1
 have hl:=I.len
 have w1:IntKind.wrap .i64 (r.2.1+1)=r.2.1+1:=wrap64 (by omega) (by omega)
 have w2:IntKind.wrap .i64 (r.2.1+1-1)=r.2.1:=by rw[wrap64 (by omega) (by omega)];omega
 have I':x4 (r.1,r.2.1+1,r.2.2) (p+1):=⟨hl,I.GF,by show 0≤r.2.1+1;omega,by show r.2.1+1≤((p+1:Nat):Int);omega⟩
 simp only[m5,w1,w2]
 by_cases hn:n<1
 ·exact⟨0,_,by rw[zl86 hn];rfl,by omega,by omega,fun _=>rfl,I'⟩
 rw[zl90 hn]
 by_cases h0:r.1.length=0
 ·exact⟨0,_,by rw[h0];rfl,by omega,by omega,fun _=>rfl,I'⟩
 have e0:((r.1.length:Int)==0)=false:=zl89.2 (by omega)
 have en:(n != 0)=true:=bne_iff_ne.2 (by omega)
 have el:((r.1.length:Int) != 0)=true:=bne_iff_ne.2 (by omega)
 simp only[pO,e0,en,el,zU]
 by_cases hq:r.2.1<r.1.length
 ·obtain⟨b0,b1⟩:=R8 I.GF r.2.1.toNat
  have w3:IntKind.wrap .i64 (r.1.getD r.2.1.toNat 0)=r.1.getD r.2.1.toNat 0:=wrap64 (by omega) (by omega)
  obtain⟨k0,k1⟩:=Lj b0 (show 1≤n by omega)
  exact⟨_,_,by simp only[zl86 hq,zl86 p0,zl92,dW,w3],k0,fun _=>k1,by omega,I'⟩
 ·obtain⟨t0,t1⟩:=Lj p0 (show 1≤(r.1.length:Int) by omega)
  have w4:IntKind.wrap .i64 (r.2.1*7)=r.2.1*7:=wrap64 (by omega) (by omega)
  have w5:IntKind.wrap .i64 (r.2.1*7+3)=r.2.1*7+3:=wrap64 (by omega) (by omega)
  obtain⟨s0,s1⟩:=Lj (show 0≤r.2.1*7+3 by omega) (show 1≤(r.1.length:Int) by omega)
  obtain⟨a0,a1⟩:=R8 I.GF (Int.tmod r.2.1 r.1.length).toNat
  obtain⟨b0,b1⟩:=R8 I.GF (Int.tmod (r.2.1*7+3) r.1.length).toNat
  have d0:0≤Int.tdiv r.2.1 r.1.length:=Int.tdiv_nonneg p0 (by omega)
  have d1:Int.tdiv r.2.1 r.1.length≤r.2.1:=by rw[zl91 p0];exact Int.ediv_le_self _ p0
  simp only[zl90 hq,pO,w4,w5,zl86 t0,zl86 t1,zl86 s0,zl86 s1,zl92,dW]
  generalize r.1.getD (Int.tmod r.2.1 r.1.length).toNat 0=A at *
  generalize r.1.getD (Int.tmod (r.2.1*7+3) r.1.length).toNat 0=B at *
  generalize Int.tdiv r.2.1 r.1.length=D at *
  have u1:IntKind.wrap .i64 A=A:=wrap64 (by omega) (by omega)
  have u2:IntKind.wrap .i64 B=B:=wrap64 (by omega) (by omega)
  have u3:IntKind.wrap .i64 D=D:=wrap64 (by omega) (by omega)
  have u4:IntKind.wrap .i64 (A*131)=A*131:=wrap64 (by omega) (by omega)
  have u5:IntKind.wrap .i64 (B*1117)=B*1117:=wrap64 (by omega) (by omega)
  have u6:IntKind.wrap .i64 (r.2.1*29)=r.2.1*29:=wrap64 (by omega) (by omega)
  have u7:IntKind.wrap .i64 (D*53)=D*53:=wrap64 (by omega) (by omega)
  have u8:IntKind.wrap .i64 (A*131+B*1117)=A*131+B*1117:=wrap64 (by omega) (by omega)
  have u9:IntKind.wrap .i64 (A*131+B*1117+r.2.1*29)=A*131+B*1117+r.2.1*29:=wrap64 (by omega) (by omega)
  have u10:IntKind.wrap .i64 (A*131+B*1117+r.2.1*29+D*53)=A*131+B*1117+r.2.1*29+D*53:=wrap64 (by omega) (by omega)
  simp only[u1,u2,u3,u4,u5,u6,u7,u8,u9,u10]
  have x0:0≤A*131+B*1117+r.2.1*29+D*53:=by omega
  have x1:A*131+B*1117+r.2.1*29+D*53<1000000000000:=by omega
  generalize A*131+B*1117+r.2.1*29+D*53=X at *
  have y0:0≤Int.tdiv X 64:=Int.tdiv_nonneg x0 (by omega)
  have y1:Int.tdiv X 64≤X:=by rw[zl91 x0];exact Int.ediv_le_self _ x0
  have w6:IntKind.wrap .i64 (Int.tdiv X 64)=Int.tdiv X 64:=wrap64 (by omega) (by omega)
  obtain⟨k0,k1⟩:=Lj (xor_nn x0 (by omega) y0 (show Int.tdiv X 64<4611686018427387904 by omega)) (show 1≤n by omega)
  exact⟨_,_,by rw[w6],k0,fun _=>k1,by omega,I'⟩
def Rt {α:Type}(x:Option α)(Q:α→Prop):Prop:=∃y,x=some y∧Q y
section
variable {α β γ:Type} {P:β→Prop} {Q:γ→Prop} {f:α→Option β} {f':α→β} {x:α} {K:β→Option γ}
def Rt.ok {y:γ}(h:Q y):Rt (some y) Q:=⟨y,rfl,h⟩
def Rt.mono {P':β→Prop}{z:Option β}(h:Rt z P)(k:∀y,P y→P' y):Rt z P':=by obtain⟨y,e,hy⟩:=h;exact⟨y,e,k y hy⟩
def Rt.call [Inhabited β](h:Rt (f x) P)(k:∀y,P y→Rt (K y) Q):Rt (c9 f x K) Q:=by
 obtain⟨y,e,hy⟩:=h
 unfold c9
 rw[zov e,e]
 exact k y hy
def Rt.box (fv:∀x y,f x=some y→f' x=y)(h:Rt (f x) P)(k:∀y,P y→Rt (K y) Q):Rt (CQ f f' x K) Q:=by
 obtain⟨y,e,hy⟩:=h
 unfold CQ
 rw[fv _ _ e,e]
 exact k y hy
def Rt.val [Inhabited β](h:Rt (f x) P)(k:∀y,P y→f x=some y→Rt (K y) Q):Rt (bn (zog f x) K) Q:=by
 obtain⟨y,e,hy⟩:=h
 unfold bn
 rw[zov e]
 exact k y hy e
def Rt.all {l:List Bool}{z:Option γ}(h:kL l=true)(k:Rt z Q):Rt (bif kL l then z else none) Q:=by rw[h];exact k
def Rt.bif {c:Bool}{a b:Option γ}(h1:c=true→Rt a Q)(h2:c=false→Rt b Q):Rt (bif c then a else b) Q:=by cases c;exact h2 rfl;exact h1 rfl
def Rt.loop {X Y:Type}{r:X→Option (X⊕Y)}{z:X}{y0:Y}{P:Y→Prop}{K:Y→Option γ}(h:∃y,Comes r z y∧P y)(k:∀y,P y→Rt (K y) Q):Rt (g8 r y0 z K) Q:=by
 obtain⟨y,c,hy⟩:=h
 unfold g8
 rw[cb c,cv c]
 exact k y hy
def Rt.sum {X Y:Type}{s:X⊕Y}{F:X→Option γ}{G:Y→Option γ}(h1:∀y,s = .inl y→Rt (F y) Q)(h2:∀y,s = .inr y→Rt (G y) Q):Rt (sumC s F G) Q:=by cases s;exact h1 _ rfl;exact h2 _ rfl
def DO {X Y:Type}{r:X→Option (X⊕Y)}{n:Nat}{I:Nat→X→Prop}{P:Y→Prop}(hs:∀i x,i<n→I i x→(∃x',r x=some (.inl x')∧I (i+1) x')∨∃y,r x=some (.inr y)∧P y)
  (he:∀x,I n x→∃y,r x=some (.inr y)∧P y):∀i x,i≤n→I i x→∃y,Comes r x y∧P y:=by
 have main:∀d i x,i+d=n→I i x→∃y,Comes r x y∧P y:=by
  intro d
  induction d with
  |zero=>intro i x hi h;obtain⟨y,e,hy⟩:=he x (by rw[←show i=n by omega];exact h);exact⟨y,.out e,hy⟩
  |succ d ih=>
   intro i x hi h
   rcases hs i x (by omega) h with⟨x',e,h'⟩|⟨y,e,hy⟩
   ·obtain⟨y,c,hy⟩:=ih (i+1) x' (by omega) h';exact⟨y,.again e c,hy⟩
   ·exact⟨y,.out e,hy⟩
 exact fun i x hi h=>main (n-i) i x (by omega) h
end
def PkI (n:Int)(p:Nat)(y:Int×dj.D×Unit):Prop:=0≤y.1∧(1≤n→y.1<n)∧(n<1→y.1=0)∧x4 y.2.1 p
def AM {r:dj.D}{p:Nat}(I:x4 r p)(hp:p≤1000000000)(n:Int):Rt (m5 (r,n)) (PkI n (p+1)):=by
 obtain⟨k,r',e,h⟩:=TS I hp n
 exact⟨_,e,h⟩
def of_rt {r:dj.D}{p:Nat}(I:x4 r p)(hp:p≤1000000000){l:List (List UInt8)}(hl:l ≠ []):Rt (Mc (r,l)) (fun y=>y.1∈l∧x4 y.2.1 (p+1)):=by
 unfold Mc
 refine Rt.val (AM I hp (l.length:Int)) fun y hy e=>?_
 have:0<l.length:=List.length_pos_iff.2 hl
 obtain⟨h0,h1,_,J⟩:=hy
 have h1:=h1 (by omega)
 refine Rt.all (by dsimp only;rw[zl86 h0,zl86 h1,e];rfl) (Rt.ok ⟨?_,J⟩)
 show l.getD y.1.toNat []∈l
 rw[getD_eq _ _ _ (by omega)]
 exact zl96 _
def adh {r:dj.D}{p:Nat}(I:x4 r p){n:Nat}(hp:p+n≤1000000000):Rt (Is (r,(n:Int))) (fun y=>y.1.length=n∧x4 y.2.1 (p+n)):=by
 unfold Is
 refine Rt.loop (P:=fun y=>y.2.2.length=n∧x4 y.2.1 (p+n)) (DO (n:=n) (I:=fun i x=>∃r ls,x=(((i:Int),(),(),(n:Int)),r,ls)∧ls.length=i∧x4 r (p+i)) ?_ ?_ 0 _ (lB _) ⟨r,[],rfl,rfl,I⟩) fun y hy=>Rt.ok ⟨by rw[Ul];exact hy.1,hy.2⟩
 ·rintro i _ hi ⟨r,ls,rfl,hl,I⟩
  obtain⟨k,r',e,h0,h1,_,J⟩:=TS I (by omega) 8
  refine .inl ⟨_,?_,r',ls ++ [((UInt8.toNat (List.getD [(97:UInt8),98,99,100,101,102,103,104] (Int.toNat k) 0):Nat):Int)],rfl,by simp[hl],J⟩
  have v:=zov e
  have d1:decide (ls.length+1≤eV)=true:=by unfold eV;exact zdt
  simp only[Q4,bn,e,v,qu,zl86 h0,zl86 (show k<(((8:Nat):Int)) from h1 (by omega)),d1,zU,zl92,dW,gl hi,zw (i:=i)]
 ·rintro _ ⟨r,ls,rfl,hl,I⟩
  exact⟨((),r,ls),by simp[Q4,ia],hl,I⟩
def x4.up {r:dj.D}{p q:Nat}(I:x4 r p)(h:p≤q):x4 r q:=⟨I.len,I.GF,I.p0,by have:=I.p1;omega⟩
structure EvI (e:di.D):Prop where
 at0:0≤e.2.1
 at1:e.2.1≤1000000
 nu0:0≤e.2.2.1
 nu1:e.2.2.1≤70000
 nam:e.2.2.2.1.length≤1048576
 txt:e.2.2.2.2.1.length≤1000
structure EvW (w:fk.D):Prop where
 fT:w.1.2.2.2.1.2.1.length≤1000
 nam:∀x∈w.1.2.2.2.1.2.1,x.2.1.length≤1048576
 At:w.2.2.1.length≤1000000
section
variable {r:dj.D} {p:Nat} {w:fk.D} {e:di.D} {name:List UInt8} {who a k:Int}
def ev0 (I:x4 r p)(hp:p≤900000000)(W:EvW w):Rt (q14 (((),(),(),0),r,w,e)) (fun y=>∃a r',y=(((),(),(),a),r',w,e)∧(0≤a∧a≤1000000)∧x4 r' (p+2)):=by
 have hr:=W.At
 unfold q14
 refine Rt.val (AM I (by omega) 2) fun y hy e1=>?_
 dsimp only
 refine Rt.all (by rw[e1];simp[zU,qu]) (Rt.bif (fun hc=>?_) fun _=>Rt.ok ⟨_,_,rfl,by omega,?_⟩)
 ·have hl:((w.2.2.1.length:Nat):Int)>0:=by
   cases h:decide (((w.2.2.1.length:Nat):Int)>0) with
   |true=>exact zl79 h
   |false=>rw[h] at hc;cases hc
  rw[zl86 hl]
  refine Rt.call (AM hy.2.2.2 (by omega) _) fun z hz=>Rt.ok ⟨_,_,rfl,⟨hz.1,?_⟩,hz.2.2.2⟩
  have:=hz.2.1 (by omega)
  omega
 ·cases decide (((w.2.2.1.length:Nat):Int)>0)
  ·exact I.up (by omega)
  ·exact hy.2.2.2.up (by omega)
def ev2 (I:x4 r p)(hp:p≤950000000)(W:EvW w)(hn:name.length≤1048576):∃y,Comes OH (((0:Int),(),who,(),(),name,a),r,w,e) y∧∃n' r',y=(((),(),who,n',a,()),r',e,w)∧n'.length≤1048576∧x4 r' (p+1000):=by
 have hi:=W.fT
 refine DO (n:=w.1.2.2.2.1.2.1.length) (I:=fun i x=>∃n' r',x=(((i:Int),(),who,(),(),n',a),r',w,e)∧n'.length≤1048576∧x4 r' (p+i)) ?_ ?_ 0 _ (lB _) ⟨name,r,rfl,hn,I⟩
 ·rintro i _ hi ⟨n',r',rfl,hn',J⟩
  obtain⟨k,q,e1,h0,h1,_,J'⟩:=TS J (by omega) 2
  have v:=zov e1
  have hm:=W.nam _ (zl96 hi)
  simp only[OH,bn,Ci,zog,e1,qu,gl hi,g0,zU,zl92,dW,zl94,getD_eq _ _ _ hi,zw (i:=i),zl99]
  have hq:x4 (bif w.1.2.2.2.1.2.1[i].1==Int.tmod who 2 then q else r') (p+(i+1)):=by
   cases w.1.2.2.2.1.2.1[i].1==Int.tmod who 2
   ·exact J.up (by omega)
   ·exact J'
  left
  cases (bif w.1.2.2.2.1.2.1[i].1==Int.tmod who 2 then k==0 else false)
  ·exact⟨_,rfl,_,_,rfl,hn',hq⟩
  ·exact⟨_,rfl,_,_,rfl,hm,hq⟩
 ·rintro _ ⟨n',r',rfl,hn',J⟩
  exact⟨_,by simp[OH,ia],n',r',rfl,hn',J.up (by omega)⟩
def ev1 (I:x4 r p)(hp:p≤900000000)(W:EvW w)(hn:name.length≤1048576):Rt (q15 (((),who,(),(),name,a),r,w,e)) (fun y=>∃n' r',y=(((),(),who,n',a,()),r',e,w)∧n'.length≤1048576∧x4 r' (p+1001)):=by
 unfold q15
 refine Rt.call (AM I (by omega) 3) fun y hy=>Rt.bif (fun _=>?_) fun _=>Rt.ok ⟨_,_,rfl,hn,hy.2.2.2.up (by omega)⟩
 refine Rt.loop (ev2 hy.2.2.2 (by omega) W hn) fun z hz=>?_
 obtain⟨n',r',rfl,h1,h2⟩:=hz
 exact Rt.ok ⟨_,_,rfl,h1,h2⟩
def ev3 (I:x4 r p)(hp:p≤900000000)(h0:0≤who)(h4:who<4):Rt (q16 (((),(),who,name,a,()),r,e,w)) (fun y=>(∃e' r',y = .inl ((),r',e')∧EvI e'∧x4 r' (p+3))∨∃r',y = .inr (((),(),name,who,a),r',e)∧x4 r' (p+3)):=by
 unfold q16
 refine Rt.all ?_ (Rt.bif (fun _=>?_) fun _=>Rt.ok (.inr ⟨_,rfl,I.up (by omega)⟩))
 ·dsimp only
  rw[zl86 h0]
  cases decide (who<((w.2.1.length:Nat):Int))<;>simp[zU]
 refine Rt.call (AM I (by omega) 3) fun y hy=>Rt.bif (fun _=>?_) fun _=>Rt.ok (.inr ⟨_,rfl,hy.2.2.2.up (by omega)⟩)
 refine Rt.val (AM hy.2.2.2 (by omega) 4) fun z hz e1=>?_
 refine Rt.val (AM hz.2.2.2 (by omega) 2) fun u hu e2=>?_
 have z0:=hz.1
 have z1:=hz.2.1 (by omega)
 have ef:∀b:Bool,KC b=some (bif b then 1 else 0,()):=by intro b;cases b<;>rfl
 have ef':∀b:Bool,zog KC b=(bif b then 1 else 0,()):=by intro b;cases b<;>rfl
 have fl:0≤IntKind.wrap .i64 (who*(bif u.1==0 then(1:Int) else 0))∧IntKind.wrap .i64 (who*(bif u.1==0 then(1:Int) else 0))≤1000000:=by
  cases u.1==0
  ·simp[wrap64]
  ·simp only[dW,Int.mul_one];rw[wrap64 (by omega) (by omega)];omega
 refine Rt.all ?_ (Rt.ok (.inl ⟨_,_,rfl,?_,hu.2.2.2⟩))
 ·simp only[e1,e2,ef,qu,zl86 z0,zl86 (show z.1<(((4:Nat):Int)) from z1),zU,zl92]
 ·simp only[ef']
  exact⟨fl.1,fl.2,by simp,by simp,by simp,by simp⟩
end
section
variable {r:dj.D} {p:Nat} {w:fk.D} {e:di.D} {name:List UInt8} {who a k:Int}
def ev4:Rt (q17 (((),(),name,who,a,k),r,e)) (fun y=>∃v,y=((v,(),(),name,who,a,k),r,e)):=by
 unfold q17
 repeat' refine Rt.bif (fun _=>?_) fun _=>?_
 all_goals exact Rt.ok ⟨_,rfl⟩
def ev5:Rt (q18 (((),name,who,(),a,k),r,e)) (fun y=>∃v,y=((v,(),name,who,(),a,k),r,e)):=by
 unfold q18
 repeat' refine Rt.bif (fun _=>?_) fun _=>?_
 all_goals exact Rt.ok ⟨_,rfl⟩
def ev6:Rt (q19 (((),(),a,name,k),r,e)) (fun y=>∃v,y=((v,(),(),a,name,k),r,e)):=by
 unfold q19
 repeat' refine Rt.bif (fun _=>?_) fun _=>?_
 all_goals exact Rt.ok ⟨_,rfl⟩
def ev7:Rt (q20 (((),(),a,name,k),r,e)) (fun y=>∃v,y=((v,(),(),a,name,k),r,e)):=by
 unfold q20
 repeat' refine Rt.bif (fun _=>?_) fun _=>?_
 all_goals exact Rt.ok ⟨_,rfl⟩
def ev8:Rt (q21 (((),a,k),r,e)) (fun y=>∃v,y=((v,(),a,k),r,e)):=by
 unfold q21
 repeat' refine Rt.bif (fun _=>?_) fun _=>?_
 all_goals exact Rt.ok ⟨_,rfl⟩
def ev9:Rt (q22 (((),a,k),r,e)) (fun y=>∃v,y=((v,(),a),r,e)):=by
 unfold q22
 repeat' refine Rt.bif (fun _=>?_) fun _=>?_
 all_goals exact Rt.ok ⟨_,rfl⟩
def Em {b:Bool}{n:Int}{text:List UInt8}(h:0≤a∧a≤1000000)(hn:name.length≤1048576)(n0:0≤n:=by omega)(n1:n≤70000:=by omega)(ht:text.length≤1000:=by simp):EvI (k,a,n,name,text,b,()):=⟨h.1,h.2,n0,n1,hn,ht⟩
def pk {n:Int}{y:Int×dj.D×Unit}(h:PkI n p y)(h1:1≤n:=by omega):0≤y.1∧y.1<n:=⟨h.1,h.2.1 h1⟩
def HX:([]:List UInt8).length≤1048576:=lB _
def aeh (I:x4 r p)(hp:p≤800000000)(W:EvW w):Rt (q80 (r,w)) (fun y=>EvI y.1∧x4 y.2.1 (p+2000)):=by
 unfold q80
 refine Rt.box q14_v (ev0 I (by omega) W) ?_
 rintro _ ⟨a,r,rfl,ha,I⟩
 refine Rt.call (of_rt I (by omega) (by simp)) fun y hy=>?_
 obtain⟨name,r,u⟩:=y
 obtain⟨hn,I⟩:=hy
 have hn:name.length≤1048576:=by simp at hn;rcases hn with rfl|rfl|rfl<;>simp
 refine Rt.call (AM I (by omega) 4) fun y hy=>?_
 obtain⟨w0,w4⟩:=pk hy
 refine Rt.box q15_v (ev1 hy.2.2.2 (by omega) W hn) ?_
 rintro _ ⟨name,r,rfl,hn,I⟩
 refine Rt.box q16_v (ev3 I (by omega) w0 w4) ?_
 rintro _ (⟨e',r,rfl,h1,h2⟩|⟨r,rfl,I⟩)
 ·exact Rt.ok ⟨h1,h2.up (by omega)⟩
 refine Rt.call (AM I (by omega) 40) fun q hq=>?_
 have I:=hq.2.2.2
 refine Rt.box q17_v ev4 ?_
 rintro _ ⟨_,rfl⟩
 refine Rt.bif (fun _=>?_) fun _=>Rt.bif (fun _=>?_) fun _=>?_
 ·refine Rt.val (AM I (by omega) 2) fun y1 h1 e1=>?_
  refine Rt.val (AM h1.2.2.2 (by omega) 30) fun y2 h2 e2=>?_
  refine Rt.val (AM h2.2.2.2 (by omega) 90) fun y3 h3 e3=>?_
  refine Rt.val (AM h3.2.2.2 (by omega) 250) fun y4 h4 e4=>?_
  refine Rt.val (AM h4.2.2.2 (by omega) 3) fun y5 h5 e5=>?_
  obtain⟨a2,b2⟩:=pk h2
  obtain⟨a3,b3⟩:=pk h3
  obtain⟨a4,b4⟩:=pk h4
  obtain⟨a5,b5⟩:=pk h5
  obtain⟨n,hn0,hn1⟩:∃n:Nat,List.getD [IntKind.wrap .i64 (1+y2.1),IntKind.wrap .i64 (1+y3.1),IntKind.wrap .i64 (1+y4.1)] (Int.toNat y5.1) 0=(n:Int)∧n≤250:=by
   rw[wrap64 (by omega) (by omega),wrap64 (by omega) (by omega),wrap64 (by omega) (by omega)]
   obtain h|h|h:Int.toNat y5.1=0∨Int.toNat y5.1=1∨Int.toNat y5.1=2:=by omega
   ·exact⟨(1+y2.1).toNat,by rw[h];simp;omega,by omega⟩
   ·exact⟨(1+y3.1).toNat,by rw[h];simp;omega,by omega⟩
   ·exact⟨(1+y4.1).toNat,by rw[h];simp;omega,by omega⟩
  dsimp only
  rw[hn0]
  refine Rt.val (adh h5.2.2.2 (by omega)) fun y6 h6 e6=>?_
  dsimp only at e1
  refine Rt.all (by simp only[e1,e2,e3,e4,e5,e6,qu,zl86 a5,zl86 (show y5.1<((3:Nat):Int) from b5),zU,zl92]) (Rt.ok ⟨Em ?_ hn (ht:=by rw[h6.1];omega),h6.2.up (by omega)⟩)
  have:=pk h1;omega
 ·refine Rt.call (AM I (by omega) 2) fun y h=>Rt.ok ⟨Em ?_ hn,h.2.2.2.up (by omega)⟩
  have:=pk h;omega
 refine Rt.box q18_v ev5 ?_
 rintro _ ⟨_,rfl⟩
 refine Rt.bif (fun _=>Rt.ok ⟨Em (by dsimp only;omega) hn,I.up (by omega)⟩) fun _=>Rt.bif (fun _=>?_) fun _=>Rt.bif (fun _=>?_) fun _=>?_
 ·refine Rt.call (AM I (by omega) 4) fun y h=>Rt.ok ⟨Em ?_ HX,h.2.2.2.up (by omega)⟩
  have:=pk h;omega
 ·refine Rt.call (AM I (by omega) 4) fun y h=>Rt.ok ⟨Em ?_ HX,h.2.2.2.up (by omega)⟩
  have:=pk h;omega
 refine Rt.box q19_v ev6 ?_
 rintro _ ⟨_,rfl⟩
 refine Rt.bif (fun _=>Rt.ok ⟨Em (by omega) HX,I.up (by omega)⟩) fun _=>?_
 refine Rt.box q20_v ev7 ?_
 rintro _ ⟨_,rfl⟩
 refine Rt.bif (fun _=>?_) fun _=>Rt.bif (fun _=>Rt.ok ⟨Em ha HX,I.up (by omega)⟩) fun _=>Rt.bif (fun _=>?_) fun _=>Rt.bif (fun _=>?_) fun _=>?_
 ·refine Rt.call (AM I (by omega) 4) fun y h=>Rt.ok ⟨Em ?_ HX,h.2.2.2.up (by omega)⟩
  have:=pk h;omega
 ·refine Rt.val (AM I (by omega) 256) fun y1 h1 e1=>?_
  refine Rt.val (AM h1.2.2.2 (by omega) 256) fun y2 h2 e2=>?_
  have:=pk h1
  have:=pk h2
  dsimp only at e1
  refine Rt.all (by simp only[e1,e2,qu,zU,zl92]) (Rt.ok ⟨?_,h2.2.2.2.up (by omega)⟩)
  rw[wrap64 (n:=y1.1*256) (by omega) (by omega),wrap64 (by omega) (by omega)]
  exact Em ha HX
 ·refine Rt.val (AM I (by omega) 2) fun y1 h1 e1=>?_
  refine Rt.val (AM h1.2.2.2 (by omega) 40) fun y2 h2 e2=>?_
  refine Rt.val (AM h2.2.2.2 (by omega) 3) fun y3 h3 e3=>?_
  have q1:=pk h1
  obtain⟨a2,b2⟩:=pk h2
  obtain⟨a3,b3⟩:=pk h3
  have hb:0≤List.getD [(0:Int),y2.1,9999] (Int.toNat y3.1) 0∧List.getD [(0:Int),y2.1,9999] (Int.toNat y3.1) 0≤70000:=by
   obtain h|h|h:Int.toNat y3.1=0∨Int.toNat y3.1=1∨Int.toNat y3.1=2:=by omega
   all_goals rw[h];simp;try omega
  dsimp only at e1
  refine Rt.all (by simp only[e1,e2,e3,qu,zl86 a3,zl86 (show y3.1<((3:Nat):Int) from b3),zU,zl92]) ?_
  refine Rt.call (AM h3.2.2.2 (by omega) 3) fun y4 h4=>Rt.bif (fun _=>?_) fun _=>Rt.ok ⟨Em (by omega) hn hb.1 hb.2,h4.2.2.2.up (by omega)⟩
  refine Rt.val (AM h4.2.2.2 (by omega) 90) fun y5 h5 e5=>?_
  obtain⟨a5,b5⟩:=pk h5
  obtain⟨n,hn0⟩:=Int.eq_ofNat_of_zero_le (show 0≤1+y5.1 by omega)
  rw[wrap64 (by omega) (by omega),hn0]
  refine Rt.val (adh h5.2.2.2 (by omega)) fun y6 h6 e6=>?_
  exact Rt.all (by simp only[e5,e6,qu,zU,zl92]) (Rt.ok ⟨Em (by omega) hn hb.1 hb.2 (by rw[h6.1];omega),h6.2.up (by omega)⟩)
 refine Rt.box q21_v ev8 ?_
 rintro _ ⟨_,rfl⟩
 refine Rt.bif (fun _=>Rt.ok ⟨Em (by omega) HX,I.up (by omega)⟩) fun _=>?_
 refine Rt.box q22_v ev9 ?_
 rintro _ ⟨_,rfl⟩
 exact Rt.bif (fun _=>Rt.ok ⟨Em ha HX,I.up (by omega)⟩) fun _=>Rt.ok ⟨Em ha HX,I.up (by omega)⟩
end
def RN {w:eL.D}(h:Ej w=true):(0≤w.1∧w.1≤6)∧(0≤w.2.1∧w.2.1≤99999)∧(1≤w.2.2.1∧w.2.2.1≤99999)∧(0≤w.2.2.2.1∧w.2.2.2.1≤99999)∧(0≤w.2.2.2.2.1∧w.2.2.2.2.1≤99999)∧w.2.2.2.2.2.1.length≤6∧w.2.2.2.2.2.2.1.length≤80:=by
 unfold Ej at h
 simp only[bB] at h
 obtain⟨⟨⟨⟨⟨h1,h2⟩,h3⟩,h4⟩,h5⟩,h6⟩:=h
 have h1:=zl79 h1
 have h2:=zl79 h2
 have h3:=zl79 h3
 have h4:=zl79 h4
 have h5:w.2.2.2.2.2.2.1.length≤80:=by simp at h5;omega
 refine⟨?_,h1,h2,h3,h4,?_,h5⟩
 ·cases e1:w.1==1 with
  |true=>have:=zl78.1 e1;omega
  |false=>
  rw[e1] at h6
  simp only[pO,bB] at h6
  have h6:=h6.2
  cases e6:w.1==6 with
  |true=>have:=zl78.1 e6;omega
  |false=>
  cases e2:w.1==2 with
  |true=>have:=zl78.1 e2;omega
  |false=>
  cases e3:w.1==3 with
  |true=>have:=zl78.1 e3;omega
  |false=>
  cases e4:w.1==4 with
  |true=>have:=zl78.1 e4;omega
  |false=>
  cases e5:w.1==5 with
  |true=>have:=zl78.1 e5;omega
  |false=>rw[e6,e2,e3,e4,e5] at h6;cases h6
 ·cases e1:w.1==1 with
  |true=>rw[e1] at h6;simp only[dW,bB] at h6;exact(Kf _ h6.1).2
  |false=>rw[e1] at h6;simp only[pO,bB,zl78] at h6;rw[h6.1];simp
def HF {n:Int}(h0:0≤n)(h1:n≤9999999):Rt (As n) (fun y=>y.1.length≤7):=by
 obtain⟨k,rfl⟩:=Int.eq_ofNat_of_zero_le h0
 exact⟨_,P7 k (by omega),Fg k (by omega)⟩
def akJ {w:eL.D}(h:Ej w=true):Rt (Mf w) (fun y=>y.1.length≤160):=by
 obtain⟨h1,h2,h3,h4,h5,h6,h7⟩:=RN h
 unfold Mf
 refine Rt.val (HF h1.1 (by omega)) fun y1 k1 e1=>?_
 refine Rt.val (HF h2.1 (by omega)) fun y2 k2 e2=>?_
 refine Rt.val (HF (show 0≤w.2.2.1 by omega) (by omega)) fun y3 k3 e3=>?_
 refine Rt.val (HF h4.1 (by omega)) fun y4 k4 e4=>?_
 refine Rt.val (HF h5.1 (by omega)) fun y5 k5 e5=>?_
 refine Rt.all ?_ (Rt.ok ?_)
 ·simp[e1,e2,e3,e4,e5,qu,zU,eV]
  omega
 ·simp only[eY,zl6,rA]
  omega
def sum_rt {t:List UInt8}(ht:t.length≤1048576):Rt (KY t) (fun y=>y.1.length≤7):=by
 unfold KY
 refine Rt.loop (P:=fun y=>0≤y.1∧y.1≤1000003) (DO (n:=t.length) (I:=fun i x=>∃n:Int,x=(((i:Int),t,n),())∧0≤n∧n≤1000003) ?_ ?_ 0 _ (lB _) ⟨1,rfl,by omega⟩) fun y hy=>?_
 ·rintro i _ hi ⟨n,rfl,h0,h1⟩
  have hb:(t.getD i 0).toNat<256:=UInt8.toNat_lt _
  have w1:IntKind.wrap .i64 (n*31)=n*31:=wrap64 (by omega) (by omega)
  have w2:IntKind.wrap .i64 (((t.getD i 0).toNat:Nat):Int)=(((t.getD i 0).toNat:Nat):Int):=wrap64 (by omega) (by omega)
  have w3:IntKind.wrap .i64 (n*31+(((t.getD i 0).toNat:Nat):Int))=n*31+(((t.getD i 0).toNat:Nat):Int):=wrap64 (by omega) (by omega)
  have w4:IntKind.wrap .i64 (n*31+(((t.getD i 0).toNat:Nat):Int)+7)=n*31+(((t.getD i 0).toNat:Nat):Int)+7:=wrap64 (by omega) (by omega)
  obtain⟨m0,m1⟩:=Lj (show 0≤n*31+(((t.getD i 0).toNat:Nat):Int)+7 by omega) (show 1≤(1000003:Int) by omega)
  exact .inl ⟨_,by simp only[QT,gl hi,g0,zl94,zU,zl92,dW,w1,w2,w3,w4,zw (i:=i)],_,rfl,m0,by omega⟩
 ·rintro _ ⟨n,rfl,h⟩
  exact⟨(n,()),by simp[QT],h⟩
 refine Rt.call (HF hy.1 (by omega)) fun z hz=>?_
 refine Rt.loop (P:=fun y=>y.1.length≤7) (DO (n:=7) (I:=fun i x=>∃s,x=(s,())∧i≤s.length∧s.length≤7) ?_ ?_ 0 _ (lB _) ⟨z.1,rfl,lB _,hz⟩) fun y hy=>Rt.ok hy
 ·rintro i _ hi ⟨s,rfl,h1,h2⟩
  by_cases h7:s.length=7
  ·exact .inr ⟨(s,()),by simp[OE,h7],h2⟩
  ·have d1:decide ((s.length:Int)<7)=true:=zdt
   have d2:decide (1+s.length≤eV)=true:=zl86 (by unfold eV;omega)
   exact .inl ⟨(48::s,()),by simp only[OE,d1,d2,zU,dW];rfl,_,rfl,by simp;omega,by simp;omega⟩
 ·rintro _ ⟨s,rfl,h1,h2⟩
  have h7:s.length=7:=by omega
  exact⟨(s,()),by simp[OE,h7],h2⟩
def adq {w:eL.D}(hn:w.2.2.2.2.2.1.length≤9999999):Rt (Ip w) (fun y=>y.1.length≤200):=by
 have a:=O3 w hn
 unfold Ip
 refine Rt.call (P:=fun y=>y.1=Ej w) ⟨_,a,rfl⟩ fun y hy=>Rt.bif (fun _=>Rt.ok (by simp)) fun hc=>?_
 rw[hy] at hc
 have hw:Ej w=true:=by simpa using hc
 refine Rt.call (akJ hw) fun z hz=>Rt.val (sum_rt (by omega)) fun u hu e=>?_
 refine Rt.all ?_ (Rt.ok ?_)
 ·simp only[e,qu,zU,eV,Bool.and_true];exact zdt
 ·simp only[eY];omega
def aek {s:List UInt8}{a:Nat}(b:Int)(hs:s.length≤1048576):Rt (Cz (s,(a:Int),b)) (fun y=>y.1 = -1∨((a:Int)≤y.1∧y.1<s.length)):=by
 unfold Cz
 by_cases ha:a<s.length
 ·refine Rt.loop (P:=fun y=>∀z,y = .inl z→(a:Int)≤z.1∧z.1<(s.length:Int)) (DO (n:=s.length) (I:=fun i x=>x=(((i:Int),b,s),())∧a≤i) ?_ ?_ a _ (by omega) ⟨rfl,bA _⟩) fun y hy=>Rt.sum (fun z e=>Rt.ok (.inr (hy z e))) fun _ _=>Rt.ok (.inl rfl)
  ·rintro i _ hi ⟨rfl,h⟩
   simp only[F8,gl hi,g0,zl94,zU,zl92,dW,zw (i:=i)]
   cases (((s.getD i 0).toNat:Nat):Int)==b
   ·exact .inl ⟨_,rfl,rfl,by omega⟩
   ·exact .inr ⟨_,rfl,by rintro _ ⟨⟩;exact⟨by dsimp only;omega,by dsimp only;omega⟩⟩
  ·rintro _ ⟨rfl,_⟩
   exact⟨.inr ((),()),by simp[F8],by rintro _ ⟨⟩⟩
 ·have h:¬((a:Int)<(s.length:Int)):=by omega
  refine Rt.loop (P:=fun y=>y = .inr ((),())) ⟨.inr ((),()),.out (by simp[F8,h]),rfl⟩ fun y hy=>?_
  subst hy
  exact Rt.ok (.inl rfl)
def akF {t:List UInt8}(ht:t.length≤1048576):Rt (q71 t) (fun y=>(y.1.2=true→Ej y.1.1=true)):=by
 unfold q71
 refine Rt.call (aek (a:=7) 58 ht) fun y hy=>Rt.bif (fun _=>Rt.ok (by intro h;cases h)) fun hc=>?_
 have h0:7≤y.1∧y.1<t.length:=by
  rcases hy with h|h
  ·rw[h] at hc;cases hc
  ·exact h
 obtain⟨k,hk⟩:=Int.eq_ofNat_of_zero_le (show 0≤y.1 by omega)
 obtain⟨l,e1,hl⟩:=Xd (List.take (Int.toNat (y.1-7)) (List.drop (Int.toNat 7) t)) (by simp;omega)
 refine Rt.val (P:=fun z=>z=(l,())) ⟨_,e1,rfl⟩ fun z hz e1=>?_
 subst hz
 refine Rt.all ?_ (Rt.bif (fun _=>Rt.ok (by intro h;cases h)) fun h6=>?_)
 ·rw[e1];simp[qu,zU];omega
 have h6:l.length=6:=by simp at h6;omega
 have nm:∀i:Nat,i<6→Rt (AD (l.getD i [])) (fun _=>True):=by
  intro i hi
  have:l.getD i []∈l:=by rw[getD_eq _ _ _ (by omega)];exact zl96 _
  have:=hl _ this
  rw[zl3,zl4] at this
  exact⟨_,IZ _ (by omega),trivial⟩
 refine Rt.val (nm 4 (by omega)) fun y1 _ e2=>?_
 refine Rt.val (nm 3 (by omega)) fun y2 _ e3=>?_
 refine Rt.val (nm 2 (by omega)) fun y3 _ e4=>?_
 refine Rt.val (nm 1 (by omega)) fun y4 _ e5=>?_
 refine Rt.val (nm 0 (by omega)) fun y5 _ e6=>?_
 have wk:IntKind.wrap .i64 (y.1+1)=y.1+1:=wrap64 (by omega) (by omega)
 refine Rt.all ?_ ?_
 ·have e2':AD (l.getD (Int.toNat 4) [])=some y1:=e2
  have e3':AD (l.getD (Int.toNat 3) [])=some y2:=e3
  have e4':AD (l.getD (Int.toNat 2) [])=some y3:=e4
  have e5':AD (l.getD (Int.toNat 1) [])=some y4:=e5
  have e6':AD (l.getD (Int.toNat 0) [])=some y5:=e6
  dsimp only
  simp only[wk,h6,e2',e3',e4',e5',e6',qu,zU]
  simp
  omega
 have h5:(l.getD (Int.toNat 5) []).length≤9999999:=by
  have:l.getD 5 []∈l:=by rw[getD_eq _ _ _ (by omega)];exact zl96 _
  have:=hl _ this
  rw[zl3,zl4] at this
  show(l.getD 5 []).length≤_
  omega
 dsimp only
 rw[wk]
 have a:=O3 (y5.1,y4.1,y3.1,y2.1,y1.1,l.getD (Int.toNat 5) [],List.take (Int.toNat ((t.length:Int)-(y.1+1))) (List.drop (Int.toNat (y.1+1)) t),()) h5
 refine Rt.val (P:=fun z=>z.1=Ej (y5.1,y4.1,y3.1,y2.1,y1.1,l.getD (Int.toNat 5) [],List.take (Int.toNat ((t.length:Int)-(y.1+1))) (List.drop (Int.toNat (y.1+1)) t),())) ⟨_,a,rfl⟩ fun z hz e7=>?_
 refine Rt.val (adq h5) fun u _ e8=>?_
 refine Rt.all (by simp only[e7,e8,qu,zU,zl99,zl92]) (Rt.bif (fun _=>Rt.ok (by intro h;cases h)) fun hv=>Rt.ok fun _=>?_)
 rw[←hz]
 cases hz1:z.1 with
 |true=>rfl
 |false=>rw[hz1] at hv;cases hv
end Pl
open Go Go.Ab
namespace Pc
def xe (l:List Int):Nat:=l.foldl (fun m x=>m |||2 ^ x.toNat) 0
def YS (l:List Int)(x:Int):xe (l ++ [x])=xe l |||2 ^ x.toNat:=by simp[xe,List.foldl_append]
def agO (l:List Int)(j:Nat):∀m:Nat,(l.foldl (fun m x=>m |||2 ^ x.toNat) m).testBit j=(m.testBit j || l.any fun x=>decide (x.toNat=j)):=by
 induction l with
 |nil=>simp
 |cons x l ih=>
  intro m
  rw[List.foldl_cons,ih]
  simp[Nat.testBit_or,Nat.testBit_two_pow,Bool.or_assoc]
def Oh (l:List Int)(j:Nat):(xe l).testBit j=l.any fun x=>decide (x.toNat=j):=by
 rw[xe,agO];simp
def mk_lt (l:List Int)(h:∀x∈l,x<24):∀m:Nat,m<2 ^ 24→l.foldl (fun m x=>m |||2 ^ x.toNat) m<2 ^ 24:=by
 induction l with
 |nil=>intro m hm;exact hm
 |cons x l ih=>
  intro m hm
  rw[List.foldl_cons]
  refine ih (fun y hy=>h y (gZ _ hy)) _ (Nat.or_lt_two_pow hm ?_)
  exact Nat.pow_lt_pow_right (by decide) (by have:=h x me;omega)
def Og (l:List Int)(h:∀x∈l,x<24):xe l<2 ^ 24:=mk_lt l h 0 (by decide)
def Qr {a:Nat}(ha:a<2 ^ 24):(BitVec.ofInt 32 (a:Int)).toNat=a:=by
 rw[BitVec.ofInt_natCast,BitVec.toNat_ofNat];omega
def wrap32 {n:Nat}(h:n<2 ^ 24):IntKind.wrap .u32 (n:Int)=(n:Int):=by
 simp[IntKind.wrap,IntKind.bits,IntKind.signed];omega
def or32 {a b:Nat}(ha:a<2 ^ 24)(hb:b<2 ^ 24):pZ .or .u32 (a:Int) (b:Int)=((a |||b:Nat):Int):=by
 show IntKind.wrap .u32 (((BitVec.ofInt 32 (a:Int) |||BitVec.ofInt 32 (b:Int)).toNat:Nat):Int)=_
 rw[BitVec.toNat_or,Qr ha,Qr hb,wrap32 (Nat.or_lt_two_pow ha hb)]
def and32 {a b:Nat}(ha:a<2 ^ 24)(hb:b<2 ^ 24):pZ .and .u32 (a:Int) (b:Int)=((a &&& b:Nat):Int):=by
 show IntKind.wrap .u32 (((BitVec.ofInt 32 (a:Int) &&& BitVec.ofInt 32 (b:Int)).toNat:Nat):Int)=_
 rw[BitVec.toNat_and,Qr ha,Qr hb,wrap32 (Nat.and_lt_two_pow _ hb)]
def shl32 {n:Int}(h:0≤n)(h':n<24):IntKind.wrap .u32 ((1:Int)*(2:Int) ^ Min.min (Int.toNat n) (IntKind.bits .u32))=((2 ^ n.toNat:Nat):Int):=by
 obtain⟨k,rfl⟩:∃k:Nat,n=k:=⟨n.toNat,by omega⟩
 have hk:k<24:=by omega
 have hm:min k 32=k:=by omega
 have h2:2 ^ k<2 ^ 24:=Nat.pow_lt_pow_right (by decide) hk
 have e:(1:Int)*(2:Int) ^ Min.min (Int.toNat k) (IntKind.bits .u32)=((2 ^ k:Nat):Int):=by
  simp[IntKind.bits,hm]
 rw[e,wrap32 h2];simp
def pow24 {n:Int}(h':n<24):2 ^ n.toNat<2 ^ 24:=Nat.pow_lt_pow_right (by decide) (by omega)
def afu (row:List Int)(hl:row.length≤4611686018427387904)(h:∀x∈row,0≤x∧x<24):Jz row=some ((xe row:Int),()):=by
 have hc:Comes OF (((0:Int),(0:Int),row,(row.length:Int)),()) ((xe row:Int),()):=by
  refine A_ (st:=fun i=>(((i:Int),(xe (row.take i):Int),row,(row.length:Int)),())) (n:=row.length) ?_ ?_ 0 (lB _)
  ·intro i hi
   have h0:=h row[i] (by simp)
   have h3:=AX (i:=i) (by omega)
   have e:xe (row.take (i+1))=xe (row.take i) |||2 ^ (row[i]).toNat:=by rw[zl88 hi,YS]
   have h4:=shl32 h0.1 h0.2
   have h5:=or32 (Og (row.take i) fun x hx=>(h x (List.mem_of_mem_take hx)).2) (pow24 h0.2)
   simp only[OF,getD_eq _ _ _ hi,zl94,h3,h4,h5,e,zU,Int.ofNat_lt,hi,h0.1,zl73,dW,zl111,zl92]
  ·simp[OF]
 simp[Jz,cb hc,cv hc,ia]
def adr {i:Nat}(h:i≤4611686018427387904)(h0:0<i):IntKind.wrap .i64 ((i:Int)-1)=((i-1:Nat):Int):=by rw[wrap64]<;>omega
def fN (s:ei.D)(i:Nat):e_.D:=s.2.2.1.getD i ([],[],())
def je (s:ei.D)(i:Nat):Int:=(fN s i).1.getD 0 0
def zC (s:ei.D)(i:Nat):Bool:=
 CB (fN s i).1 s.1&&decide ((fN s i).1.length≠0)&&decide (((fN s i).2.1.length:Int)=s.2.1)&&(decide (i=0) || decide (je s (i-1)<je s i))
def PF (s:ei.D)(i:Nat)(h:i<s.2.2.1.length):fN s i∈s.2.2.1:=by
 rw[fN,getD_eq _ _ _ h];simp
def aj1 (s:ei.D)(hs:Fe s)(h1:1≤s.1∧s.1≤24):Comes K7 (((0:Int),()),s) (if ld s.2.2.1.length (zC s)=true then .inr ((),s) else .inl (false,())):=by
 have CM:∀i,i<s.2.2.1.length→(∀j,j<i→zC s j=true)→K7 (((i:Int),()),s)=bif zC s i then some (.inl ((((i+1:Nat):Int),()),s)) else some (.inr (.inl (false,()))):=by
  intro i hi hp
  have hm:=PF s i hi
  have hr:=ajZ (fN s i).1 s.1 (hs.2 _ hm) (by omega) (by omega)
  have hr':zog Ik ((fN s i).1,s.1)=(CB (fN s i).1 s.1,()):=by simp only[zog,hr]
  have eA:List.getD s.2.2.1 i ([],[],())=fN s i:=rfl
  have hi':decide ((i:Int)<(s.2.2.1.length:Int))=true:=by simpa using hi
  have h0:decide ((0:Int)≤(i:Int))=true:=by simp
  have w:=AX (i:=i) (by have:=hs.1;omega)
  have d1:(((fN s i).1.length:Int)==0) = !decide ((fN s i).1.length≠0):=by
   by_cases e:(fN s i).1.length=0<;>simp[e]
  have d2:(((fN s i).2.1.length:Int) != s.2.1) = !decide (((fN s i).2.1.length:Int)=s.2.1):=rfl
  have d3:decide ((0:Int)<((fN s i).1.length:Int))=decide ((fN s i).1.length≠0):=by
   by_cases e:(fN s i).1.length=0<;>simp[e];omega
  rcases zl83 i with hz|hz
  ·subst hz
   have g0:decide (((0:Nat):Int)>0)=false:=by decide
   cases hA:CB (fN s 0).1 s.1<;>cases hB:decide ((fN s 0).1.length≠0)<;>cases hC:decide (((fN s 0).2.1.length:Int)=s.2.1)<;>
    simp only[K7,hi',h0,zl94,eA,hr',hr,d1,d2,d3,g0,hA,hB,hC,w,zC,zU,qu,dW,pO,zl70,zl98,Bool.and_true,zl74,zl76,zl99,zl92,zl73]
  ·have g0:decide ((i:Int)>0)=true:=by simpa using hz
   have gz:decide (i=0)=false:=by simp;omega
   have w2:=adr (i:=i) (by have:=hs.1;omega) hz
   have eB:List.getD s.2.2.1 (i-1) ([],[],())=fN s (i-1):=rfl
   have hq:=hp (i-1) (by omega)
   simp only[zC,bB,mS] at hq
   have q1:decide ((0:Int)<((fN s (i-1)).1.length:Int))=true:=by have:=hq.1.1.2;simp;omega
   have q2:decide (((i-1:Nat):Int)<(s.2.2.1.length:Int))=true:=by simp;omega
   have q3:decide ((0:Int)≤((i-1:Nat):Int))=true:=by simp
   have f1:List.getD (fN s i).1 0 0=je s i:=rfl
   have f2:List.getD (fN s (i-1)).1 0 0=je s (i-1):=rfl
   have d4:decide (je s (i-1)≥je s i) = !decide (je s (i-1)<je s i):=by
    by_cases e:je s (i-1)<je s i
    ·have:¬je s i≤je s (i-1):=by omega
     simp[e,this]
    ·have:je s i≤je s (i-1):=by omega
     simp[e,this]
   cases hA:CB (fN s i).1 s.1<;>cases hB:decide ((fN s i).1.length≠0)<;>cases hC:decide (((fN s i).2.1.length:Int)=s.2.1)<;>cases hD:decide (je s (i-1)<je s i)<;>
    simp only[K7,hi',h0,zl94,Int.toNat_zero,eA,eB,f1,f2,hr',hr,d1,d2,d3,d4,g0,gz,hA,hB,hC,hD,w,w2,q1,q2,q3,zC,zU,qu,dW,pO,zl70,zl98,Bool.and_true,zl74,zl99,Bool.or_false,zl92,zl73,Int.le_refl]
 refine Cs (fun i=>(((i:Int),()),s)) ?_ ?_ ?_
 ·intro i hi hp h
  rw[CM i hi hp,h];rfl
 ·intro i hi hp h
  rw[CM i hi hp,h];rfl
 ·simp[K7,ia]
def FN (row:List Int)(n:Int):Bool:= !ld row.length fun j=> !(row.getD j 0==n)
def SP (row:List Int)(n:Int):FN row n=true↔∃j,j<row.length∧row.getD j 0=n:=by
 unfold FN
 cases h:ld row.length fun j=> !(row.getD j 0==n) with
 |true=>
  rw[wh] at h
  simp only[zl70,zl44,false_iff,not_exists,not_and]
  intro j hj e
  have:=h j hj
  simp only[e,zl95,zl70,zl44] at this
 |false=>
  simp only[zl98,true_iff]
  by_cases e:∃j,j<row.length∧row.getD j 0=n
  ·exact e
  ·exfalso
   have:ld row.length (fun j=> !(row.getD j 0==n))=true:=by
    rw[wh];intro j hj
    simp only[zl63,zl89,ne_eq]
    intro e2;exact e ⟨j,hj,e2⟩
   rw[h] at this;cases this
def ac8 (row:List Int)(n:Int)(h:row.length≤4611686018427387904):EH (row,n)=some (FN row n,()):=by
 have hl:Comes Mt (((0:Int),n,row),()) (if(ld row.length fun j=> !(row.getD j 0==n))=true then .inr ((),()) else .inl (true,())):=by
  refine Cs (fun i=>(((i:Int),n,row),())) ?_ ?_ ?_
  ·intro i hi _ hp
   have hi':decide ((i:Int)<(row.length:Int))=true:=by simpa using hi
   have h0:decide ((0:Int)≤(i:Int))=true:=by simp
   have hp':(row.getD i 0==n)=false:=by simpa using hp
   simp only[Mt,hi',h0,zl94,hp',AX (i:=i) (by omega),zU,dW,pO,zl92]
  ·intro i hi _ hp
   have hi':decide ((i:Int)<(row.length:Int))=true:=by simpa using hi
   have h0:decide ((0:Int)≤(i:Int))=true:=by simp
   have hp':(row.getD i 0==n)=true:=by simpa using hp
   simp only[Mt,hi',h0,zl94,hp',zU,dW,zl92]
  ·simp[Mt]
 cases hp:(ld row.length fun j=> !(row.getD j 0==n)) with
 |true=>
  rw[hp,bQ rfl] at hl
  simp only[EH,cb hl,cv hl,FN,hp,dW,zl70,ia]
 |false=>
  rw[hp,cT (by simp)] at hl
  simp only[EH,cb hl,cv hl,FN,hp,dW,zl98,ia]
def JY (s:ei.D)(i k:Nat):Bool:=decide (k=i) || !FN (fN s k).1 (je s i)
def cross (s:ei.D):Bool:=ld s.2.2.1.length fun i=>ld s.2.2.1.length (JY s i)
def ac7 (s:ei.D)(hs:Fe s)(i:Nat)(hi:i<s.2.2.1.length)(hne:(fN s i).1.length≠0) :
  Comes MG (((0:Int),(i:Int),()),s) (if ld s.2.2.1.length (JY s i)=true then .inr (((),(i:Int)),s) else .inl (false,())):=by
 have CM:∀k,k<s.2.2.1.length→MG (((k:Int),(i:Int),()),s)=bif JY s i k then some (.inl ((((k+1:Nat):Int),(i:Int),()),s)) else some (.inr (.inl (false,()))):=by
  intro k hk
  have hr:=ac8 (fN s k).1 (je s i) (hs.2 _ (PF s k hk))
  have hr':zog EH ((fN s k).1,je s i)=(FN (fN s k).1 (je s i),()):=by simp only[zog,hr]
  have eA:List.getD s.2.2.1 i ([],[],())=fN s i:=rfl
  have eB:List.getD s.2.2.1 k ([],[],())=fN s k:=rfl
  have f1:List.getD (fN s i).1 0 0=je s i:=rfl
  have hi':decide ((i:Int)<(s.2.2.1.length:Int))=true:=by simpa using hi
  have hk':decide ((k:Int)<(s.2.2.1.length:Int))=true:=by simpa using hk
  have h0:decide ((0:Int)≤(i:Int))=true:=by simp
  have h1:decide ((0:Int)≤(k:Int))=true:=by simp
  have h2:decide ((0:Int)<((fN s i).1.length:Int))=true:=by simp;omega
  have w:=AX (i:=k) (by have:=hs.1;omega)
  have d1:((k:Int) != (i:Int)) = !decide (k=i):=by
   by_cases e:k=i
   ·subst e;simp
   ·have:(k:Int)≠i:=by omega
    simp[e,this]
  cases hA:decide (k=i)<;>cases hB:FN (fN s k).1 (je s i)<;>
   simp only[MG,hi',hk',h0,h1,h2,zl94,Int.toNat_zero,eA,eB,f1,hr,hr',d1,hA,hB,w,JY,zU,qu,dW,pO,zl70,zl98,zl99,Bool.or_false,zl92,Bool.or_self,zl73,Int.le_refl]
 refine Cs (fun k=>(((k:Int),(i:Int),()),s)) ?_ ?_ ?_
 ·intro k hk _ h
  rw[CM k hk,h];rfl
 ·intro k hk _ h
  rw[CM k hk,h];rfl
 ·simp[MG,ia]
def aj2 (s:ei.D)(hs:Fe s)(hne:∀i,i<s.2.2.1.length→(fN s i).1.length≠0) :
  Comes ME (((0:Int),()),s) (if cross s=true then .inr ((),()) else .inl (false,())):=by
 refine Cs (fun i=>(((i:Int),()),s)) ?_ ?_ ?_
 ·intro i hi _ h
  have hl:=ac7 s hs i hi (hne i hi)
  rw[h,bQ rfl] at hl
  have hi':decide ((i:Int)<(s.2.2.1.length:Int))=true:=by simpa using hi
  simp only[ME,hi',cb hl,cv hl,dW,ia]
  dsimp only[sumC]
  rw[AX (i:=i) (by have:=hs.1;omega)]
 ·intro i hi _ h
  have hl:=ac7 s hs i hi (hne i hi)
  rw[h,cT (by simp)] at hl
  have hi':decide ((i:Int)<(s.2.2.1.length:Int))=true:=by simpa using hi
  simp only[ME,hi',cb hl,cv hl,dW,ia]
 ·simp[ME,ia]
def CC (s:ei.D):Bool:=decide (1≤s.1∧s.1≤24)&&decide (1≤s.2.1∧s.2.1≤16)&&ld s.2.2.1.length (zC s)&&cross s
def Ss {s:ei.D}(h:ld s.2.2.1.length (zC s)=true)(i:Nat)(hi:i<s.2.2.1.length):(fN s i).1.length≠0:=by
 have:=wh.1 h i hi
 simp only[zC,bB,mS] at this
 exact this.1.1.2
def aj0 (s:ei.D)(hs:Fe s):Gk s=some (CC s,()):=by
 by_cases a1:1≤s.1∧s.1≤24
 case neg=>simp[Gk,zog,AH,zU,qu,a1,CC]
 by_cases a2:1≤s.2.1∧s.2.1≤16
 case neg=>simp[Gk,zog,AH,zU,qu,a1,a2,CC]
 have hl:=aj1 s hs a1
 cases h1:ld s.2.2.1.length (zC s) with
 |false=>
  rw[h1,cT (by simp)] at hl
  simp[Gk,zog,AH,zU,qu,a1,a2,CC,cb hl,cv hl,h1]
 |true=>
  rw[h1,bQ rfl] at hl
  have hl2:=aj2 s hs (Ss h1)
  cases h2:cross s with
  |false=>
   rw[h2,cT (by simp)] at hl2
   simp[Gk,zog,AH,zU,qu,a1,a2,CC,cb hl,cv hl,h1,h2]
   dsimp only[sumC]
   simp only[cb hl2,cv hl2,dW]
  |true=>
   rw[h2,bQ rfl] at hl2
   simp[Gk,zog,AH,zU,qu,a1,a2,CC,cb hl,cv hl,h1,h2]
   dsimp only[sumC]
   simp only[cb hl2,cv hl2,dW]
def T9 {row:List Int}{count:Int}(h:CB row count=true)(x:Int)(hx:x∈row):0≤x∧x<24:=by
 simp only[CB,bB,mS] at h
 obtain⟨i,hi,e⟩:=List.mem_iff_getElem.1 hx
 have:=wh.1 h.1 i hi
 simp only[CN,bB,mS,getD_eq _ _ _ hi,e] at this
 omega
def Cb (s:ei.D)(i:Nat):List Int:=(List.range i).map (je s)
def afe (s:ei.D)(i:Nat):Cb s (i+1)=Cb s i ++ [je s i]:=by simp[Cb,List.range_succ]
def PY {s:ei.D}{i:Nat}(h:zC s i=true):0≤je s i∧je s i<24:=by
 simp only[zC,bB,mS] at h
 have hp:0<(fN s i).1.length:=by have:=h.1.1.2;omega
 refine T9 h.1.1.1 _ ?_
 rw[je,getD_eq _ _ _ hp];simp
def XY {s:ei.D}{i:Nat}(h:∀j,j<i→zC s j=true):∀x∈Cb s i,x<24:=by
 intro x hx
 simp only[Cb,gG,List.mem_range] at hx
 obtain⟨j,hj,rfl⟩:=hx
 exact(PY (h j hj)).2
def afr (s:ei.D)(hs:Fe s)(h1:1≤s.1∧s.1≤24) :
  Comes Iq (((0:Int),(0:Int),(),s.2.2.1,(s.2.2.1.length:Int)),s) (if ld s.2.2.1.length (zC s)=true then .inr ((((xe (Cb s s.2.2.1.length):Nat):Int),()),s) else .inl (false,())):=by
 have CM:∀i,i<s.2.2.1.length→(∀j,j<i→zC s j=true)→Iq (((i:Int),((xe (Cb s i):Nat):Int),(),s.2.2.1,(s.2.2.1.length:Int)),s)=bif zC s i then some (.inl ((((i+1:Nat):Int),((xe (Cb s (i+1)):Nat):Int),(),s.2.2.1,(s.2.2.1.length:Int)),s)) else some (.inr (.inl (false,()))):=by
  intro i hi hp
  have hm:=PF s i hi
  have hr:=afp (fN s i).1 s.1 (hs.2 _ hm) (by omega) (by omega)
  have hr':zog Ii ((fN s i).1,s.1)=(CB (fN s i).1 s.1,()):=by simp only[zog,hr]
  have eA:List.getD s.2.2.1 i ([],[],())=fN s i:=rfl
  have hi':decide ((i:Int)<(s.2.2.1.length:Int))=true:=by simpa using hi
  have h0:decide ((0:Int)≤(i:Int))=true:=by simp
  have w:=AX (i:=i) (by have:=hs.1;omega)
  have d1:(((fN s i).1.length:Int)==0) = !decide ((fN s i).1.length≠0):=by
   by_cases e:(fN s i).1.length=0<;>simp[e]
  have d2:(((fN s i).2.1.length:Int) != s.2.1) = !decide (((fN s i).2.1.length:Int)=s.2.1):=rfl
  have d3:decide ((0:Int)<((fN s i).1.length:Int))=decide ((fN s i).1.length≠0):=by
   by_cases e:(fN s i).1.length=0<;>simp[e];omega
  have f1:List.getD (fN s i).1 0 0=je s i:=rfl
  have mk:zC s i=true→pZ .or .u32 ((xe (Cb s i):Nat):Int) (IntKind.wrap .u32 ((1:Int)*(2:Int) ^ Min.min (Int.toNat (je s i)) (IntKind.bits .u32)))=((xe (Cb s (i+1)):Nat):Int):=by
   intro h
   have:=PY h
   rw[shl32 this.1 this.2,or32 (Og _ (XY hp)) (pow24 this.2),afe,YS]
  have mk0:zC s i=true→decide (0≤je s i)=true:=fun h=>zl86 (PY h).1
  rcases zl83 i with hz|hz
  ·subst hz
   have g0:decide (((0:Nat):Int)>0)=false:=by decide
   cases hA:CB (fN s 0).1 s.1<;>cases hB:decide ((fN s 0).1.length≠0)<;>cases hC:decide (((fN s 0).2.1.length:Int)=s.2.1)
   case true.true.true=>
    have hE:zC s 0=true:=by simp only[zC,hA,hB,hC,zl73,zl76,zl92]
    simp only[Iq,hi',h0,zl94,Int.toNat_zero,eA,f1,hr',hr,d1,d2,d3,g0,hA,hB,hC,w,mk hE,mk0 hE,hE,zU,qu,dW,pO,zl70,zl98,Bool.and_true,zl76,zl99,zl92]
   all_goals
    simp only[Iq,hi',h0,zl94,eA,hr',hr,d1,d2,d3,g0,hA,hB,hC,w,zC,zU,qu,dW,pO,zl70,zl98,Bool.and_true,zl74,zl76,zl99,zl92,zl73]
  ·have g0:decide ((i:Int)>0)=true:=by simpa using hz
   have gz:decide (i=0)=false:=by simp;omega
   have w2:=adr (i:=i) (by have:=hs.1;omega) hz
   have eB:List.getD s.2.2.1 (i-1) ([],[],())=fN s (i-1):=rfl
   have hq:=hp (i-1) (by omega)
   simp only[zC,bB,mS] at hq
   have q1:decide ((0:Int)<((fN s (i-1)).1.length:Int))=true:=by have:=hq.1.1.2;simp;omega
   have q2:decide (((i-1:Nat):Int)<(s.2.2.1.length:Int))=true:=by simp;omega
   have q3:decide ((0:Int)≤((i-1:Nat):Int))=true:=by simp
   have f2:List.getD (fN s (i-1)).1 0 0=je s (i-1):=rfl
   have d4:decide (je s (i-1)≥je s i) = !decide (je s (i-1)<je s i):=by
    by_cases e:je s (i-1)<je s i
    ·have:¬je s i≤je s (i-1):=by omega
     simp[e,this]
    ·have:je s i≤je s (i-1):=by omega
     simp[e,this]
   cases hA:CB (fN s i).1 s.1<;>cases hB:decide ((fN s i).1.length≠0)<;>cases hC:decide (((fN s i).2.1.length:Int)=s.2.1)<;>cases hD:decide (je s (i-1)<je s i)
   case true.true.true.true=>
    have hE:zC s i=true:=by simp only[zC,hA,hB,hC,hD,zl99,zl92]
    simp only[Iq,hi',h0,zl94,Int.toNat_zero,eA,eB,f1,f2,hr',hr,d1,d2,d3,d4,g0,hA,hB,hC,hD,w,w2,q1,q2,q3,mk hE,mk0 hE,hE,zU,qu,dW,pO,zl70,zl98,zl99,zl92,zl73,Int.le_refl]
   all_goals
    simp only[Iq,hi',h0,zl94,Int.toNat_zero,eA,eB,f1,f2,hr',hr,d1,d2,d3,d4,g0,gz,hA,hB,hC,hD,w,w2,q1,q2,q3,zC,zU,qu,dW,pO,zl70,zl98,Bool.and_true,zl74,zl99,Bool.or_false,zl92,zl73,Int.le_refl]
 have e0:((xe (Cb s 0):Nat):Int)=0:=rfl
 refine e0▸Cs (fun i=>(((i:Int),((xe (Cb s i):Nat):Int),(),s.2.2.1,(s.2.2.1.length:Int)),s)) ?_ ?_ ?_
 ·intro i hi hp h
  rw[CM i hi hp,h];rfl
 ·intro i hi hp h
  rw[CM i hi hp,h];rfl
 ·simp[Iq,ia]
def DN (s:ei.D)(k:Nat):List Int:=(fN s k).1.drop 1
def FZ (s:ei.D)(k:Nat):Bool:=decide (xe (DN s k) &&& xe (Cb s s.2.2.1.length)=0)
def afs (s:ei.D)(hs:Fe s)(ha:ld s.2.2.1.length (zC s)=true) :
  Comes MC (((0:Int),((xe (Cb s s.2.2.1.length):Nat):Int),s.2.2.1,(s.2.2.1.length:Int)),()) (if ld s.2.2.1.length (FZ s)=true then .inr ((),()) else .inl (false,())):=by
 have CM:∀k,k<s.2.2.1.length→MC (((k:Int),((xe (Cb s s.2.2.1.length):Nat):Int),s.2.2.1,(s.2.2.1.length:Int)),())=bif FZ s k then some (.inl ((((k+1:Nat):Int),((xe (Cb s s.2.2.1.length):Nat):Int),s.2.2.1,(s.2.2.1.length:Int)),())) else some (.inr (.inl (false,()))):=by
  intro k hk
  have hm:=PF s k hk
  have hl:=hs.2 _ hm
  have hq:=wh.1 ha k hk
  simp only[zC,bB,mS] at hq
  have hne:=hq.1.1.2
  have hmem:∀x∈DN s k,0≤x∧x<24:=fun x hx=>T9 hq.1.1.1 x (List.mem_of_mem_drop hx)
  have hr:=afu (DN s k) (by rw[DN,zl4];omega) hmem
  have hr':zog Jz (DN s k)=(((xe (DN s k):Nat):Int),()):=by simp only[zog,hr]
  have eA:List.getD s.2.2.1 k ([],[],())=fN s k:=rfl
  have et:List.take (Int.toNat (((fN s k).1.length:Int)-1)) (List.drop (Int.toNat 1) (fN s k).1)=DN s k:=by
   rw[DN]
   exact zl57 (by simp)
  have hk':decide ((k:Int)<(s.2.2.1.length:Int))=true:=by simpa using hk
  have h0:decide ((0:Int)≤(k:Int))=true:=by simp
  have h1:decide ((1:Int)≤((fN s k).1.length:Int))=true:=by simp;omega
  have w:=AX (i:=k) (by have:=hs.1;omega)
  have ea:=and32 (Og _ fun x hx=>(hmem x hx).2) (Og _ (XY (wh.1 ha)))
  have en:(((xe (DN s k) &&& xe (Cb s s.2.2.1.length):Nat):Int) != 0) = !FZ s k:=by
   unfold FZ
   by_cases e:xe (DN s k) &&& xe (Cb s s.2.2.1.length)=0
   ·rw[e];rfl
   ·rw[zl90 e,zl98,bne_iff_ne];omega
  cases hc:FZ s k<;>
   simp only[MC,hk',h0,h1,zl94,eA,et,hr,hr',ea,en,hc,w,zU,qu,dW,pO,zl70,zl98,zl92,zl73,Int.le_refl]
 refine Cs (fun k=>(((k:Int),((xe (Cb s s.2.2.1.length):Nat):Int),s.2.2.1,(s.2.2.1.length:Int)),())) ?_ ?_ ?_
 ·intro k hk _ h
  rw[CM k hk,h];rfl
 ·intro k hk _ h
  rw[CM k hk,h];rfl
 ·simp[MC,ia]
def AQ {f:Nat→Int}{n:Nat}(h:∀i,0<i→i<n→f (i-1)<f i):∀j i,i<j→j<n→f i<f j:=by
 intro j
 induction j with
 |zero=>intro i hi;omega
 |succ j ih=>
  intro i hi hj
  have h1:f j<f (j+1):=h (j+1) (by omega) hj
  by_cases e:i=j
  ·subst e;exact h1
  ·have:=ih i (by omega) (by omega)
   omega
def ajn {row:List Int}{count:Int}(h:CB row count=true)(m:Nat)(hm:0<m)(hl:m<row.length):row.getD 0 0<row.getD m 0:=by
 simp only[CB,bB] at h
 refine AQ (f:=fun i=>row.getD i 0) (n:=row.length) ?_ m 0 hm hl
 intro i h0 hi
 have:=wh.1 h.1 i hi
 simp only[CN,bB,rz,mS] at this
 exact this.2.resolve_left (by omega)
def NO {s:ei.D}(h:ld s.2.2.1.length (zC s)=true):∀j i,i<j→j<s.2.2.1.length→je s i<je s j:=by
 refine AQ ?_
 intro i h0 hi
 have:=wh.1 h i hi
 simp only[zC,bB,rz,mS] at this
 exact this.2.resolve_left (by omega)
def T_ {s:ei.D}(h:ld s.2.2.1.length (zC s)=true){k:Nat}(hk:k<s.2.2.1.length):CB (fN s k).1 s.1=true:=by
 have:=wh.1 h k hk
 simp only[zC,bB] at this
 exact this.1.1.1
def Tp {s:ei.D}{k:Nat}{x:Int}:x∈DN s k↔∃m,0<m∧m<(fN s k).1.length∧(fN s k).1.getD m 0=x:=by
 rw[DN,List.mem_iff_getElem]
 constructor
 ·rintro⟨i,hi,e⟩
  rw[zl4] at hi
  refine⟨i+1,by omega,by omega,?_⟩
  rw[getD_eq _ _ _ (by omega:i+1<(fN s k).1.length)]
  rw[List.getElem_drop] at e
  simpa[Nat.add_comm] using e
 ·rintro⟨m,h0,hm,e⟩
  refine⟨m-1,by rw[zl4];omega,?_⟩
  rw[List.getElem_drop]
  rw[getD_eq _ _ _ hm] at e
  have:1+(m-1)=m:=by omega
  simp only[this]
  exact e
def YQ {s:ei.D}{n:Nat}{x:Int}:x∈Cb s n↔∃i,i<n∧je s i=x:=by simp[Cb]
def To {s:ei.D}(ha:ld s.2.2.1.length (zC s)=true){k:Nat}(hk:k<s.2.2.1.length) :
  FZ s k=true↔∀i,i<s.2.2.1.length→je s i∉DN s k:=by
 have hr:=T_ ha hk
 unfold FZ
 rw[mS]
 constructor
 ·intro h i hi hm
  have h1:(xe (DN s k)).testBit (je s i).toNat=true:=by
   rw[Oh,List.any_eq_true];exact⟨_,hm,by simp⟩
  have h2:(xe (Cb s s.2.2.1.length)).testBit (je s i).toNat=true:=by
   rw[Oh,List.any_eq_true];exact⟨_,YQ.2 ⟨i,hi,rfl⟩,by simp⟩
  have:(xe (DN s k) &&& xe (Cb s s.2.2.1.length)).testBit (je s i).toNat=true:=by rw[Nat.testBit_and,h1,h2];rfl
  rw[h,Nat.zero_testBit] at this;cases this
 ·intro h
  apply Nat.eq_of_testBit_eq
  intro j
  rw[Nat.testBit_and,Nat.zero_testBit,Oh,Oh,zl81]
  cases h1:(DN s k).any fun x=>decide (x.toNat=j) with
  |false=>exact .inl rfl
  |true=>
   refine .inr ?_
   cases h2:(Cb s s.2.2.1.length).any fun x=>decide (x.toNat=j) with
   |false=>rfl
   |true=>
    exfalso
    obtain⟨x,hx,ex⟩:=List.any_eq_true.1 h1
    obtain⟨y,hy,ey⟩:=List.any_eq_true.1 h2
    simp only[mS] at ex ey
    obtain⟨i,hi,rfl⟩:=YQ.1 hy
    have b1:=PY (wh.1 ha i hi)
    have b2:=T9 hr x (List.mem_of_mem_drop hx)
    have:x=je s i:=by omega
    subst this
    exact h i hi hx
def W8 {s:ei.D}(ha:ld s.2.2.1.length (zC s)=true):ld s.2.2.1.length (FZ s)=cross s:=by
 have hne:=Ss ha
 have key:ld s.2.2.1.length (FZ s)=true↔cross s=true:=by
  rw[wh,cross,wh]
  constructor
  ·intro h i hi
   rw[wh]
   intro k hk
   simp only[JY,rz,mS]
   by_cases e:k=i
   ·exact .inl e
   ·refine .inr ?_
    cases hh:FN (fN s k).1 (je s i) with
    |false=>rfl
    |true=>
     exfalso
     obtain⟨j,hj,ej⟩:=(SP _ _).1 hh
     rcases zl83 j with hz|hz
     ·subst hz
      have e2:je s k=je s i:=ej
      rcases Nat.lt_or_gt_of_ne e with hlt|hlt
      ·have:=NO ha i k hlt hi;omega
      ·have:=NO ha k i hlt hk;omega
     ·exact(To ha hk).1 (h k hk) i hi (Tp.2 ⟨j,hz,hj,ej⟩)
  ·intro h k hk
   rw[To ha hk]
   intro i hi hm
   obtain⟨m,h0,hml,e⟩:=Tp.1 hm
   have:=wh.1 (h i hi) k hk
   simp only[JY,rz,mS] at this
   rcases this with hki|hn
   ·subst hki
    have:=ajn (T_ ha hk) m h0 hml
    rw[e] at this
    unfold je at this
    omega
   ·have:FN (fN s k).1 (je s i)=true:=(SP _ _).2 ⟨m,hml,e⟩
    rw[this] at hn;cases hn
 cases h1:ld s.2.2.1.length (FZ s)<;>cases h2:cross s
 ·rfl
 ·rw[key.2 h2] at h1;cases h1
 ·rw[key.1 h1] at h2;cases h2
 ·rfl
def afq (s:ei.D)(hs:Fe s):Gh s=some (CC s,()):=by
 by_cases a1:1≤s.1∧s.1≤24
 case neg=>simp[Gh,zog,Bo,zU,qu,a1,CC]
 by_cases a2:1≤s.2.1∧s.2.1≤16
 case neg=>simp[Gh,zog,Bo,zU,qu,a1,a2,CC]
 have hl:=afr s hs a1
 cases h1:ld s.2.2.1.length (zC s) with
 |false=>
  rw[h1,cT (by simp)] at hl
  simp[Gh,zog,Bo,zU,qu,a1,a2,CC,cb hl,cv hl,h1]
 |true=>
  rw[h1,bQ rfl] at hl
  have hl2:=afs s hs h1
  rw[W8 h1] at hl2
  cases h2:cross s with
  |false=>
   rw[h2,cT (by simp)] at hl2
   simp[Gh,zog,Bo,zU,qu,a1,a2,CC,cb hl,cv hl,h1,h2]
   dsimp only[sumC]
   simp only[cb hl2,cv hl2,dW]
  |true=>
   rw[h2,bQ rfl] at hl2
   simp[Gh,zog,Bo,zU,qu,a1,a2,CC,cb hl,cv hl,h1,h2]
   dsimp only[sumC]
   simp only[cb hl2,cv hl2,dW]
def scan (p:Nat→Bool):Nat→Nat→Nat
 |0,k=>k
 |d+1,k=>if p k=true then scan p d (k+1) else k
def OU (p:Nat→Bool):∀d k,k≤scan p d k∧scan p d k≤k+d∧(∀j,k≤j→j<scan p d k→p j=true)∧(scan p d k<k+d→p (scan p d k)=false)
 |0,k=>⟨bA _,bA _,fun j h1 h2=>by simp only[scan] at h2;omega,fun h=>by simp only[scan] at h;omega⟩
 |d+1,k=>by
  unfold scan
  by_cases h:p k=true
  ·rw[bQ h]
   obtain⟨a,b,c,e⟩:=OU p d (k+1)
   refine⟨by omega,by omega,fun j h1 h2=>?_,fun hh=>e (by omega)⟩
   by_cases ej:j=k
   ·subst ej;exact h
   ·exact c j (by omega) h2
  ·rw[cT h]
   refine⟨bA _,by omega,fun j h1 h2=>by omega,fun _=>by simpa using h⟩
def El {X Y:Type}{r:X→Option (X⊕Y)}(st:Nat→X){n:Nat}(p:Nat→Bool)(yf:Nat→Y)(hs:∀i,i<n→p i=true→r (st i)=some (.inl (st (i+1))))
  (hf:∀i,i<n→p i=false→r (st i)=some (.inr (yf i))) (he:r (st n)=some (.inr (yf n))):Comes r (st 0) (yf (scan p n 0)):=by
 have main:∀d k,k+d=n→Comes r (st k) (yf (scan p d k)):=by
  intro d
  induction d with
  |zero=>intro k hk;have:k=n:=by omega
         subst this;exact .out he
  |succ d ih=>
   intro k hk
   unfold scan
   cases hp:p k with
   |true=>rw[bQ rfl];exact .again (hs k (by omega) hp) (ih (k+1) (by omega))
   |false=>rw[cT (by simp)];exact .out (hf k (by omega) hp)
 exact main n 0 (by omega)
def Es (s:ei.D)(n:Int)(i:Nat):Bool:=decide ((fN s i).1.length=1)&&decide (je s i=n)
def BZ (s:ei.D)(n:Int):Nat:=scan (fun i=> !Es s n i) s.2.2.1.length 0
def Cu (s:ei.D)(n:Int):List UInt8×Bool:=if BZ s n<s.2.2.1.length then((fN s (BZ s n)).2.1,true) else([],false)
def XS {s:ei.D}{n:Int}(h:BZ s n<s.2.2.1.length):Es s n (BZ s n)=true:=by
 have:=(OU (fun i=> !Es s n i) s.2.2.1.length 0).2.2.2 (by rw[lA];exact h)
 simpa[BZ] using this
def ae_ {s:ei.D}{n:Int}{i:Nat}(_hi:i<s.2.2.1.length)(h:Es s n i=true):BZ s n≤i:=by
 rcases Nat.lt_or_ge i (BZ s n) with hl|hl
 ·have:=(OU (fun i=> !Es s n i) s.2.2.1.length 0).2.2.1 i (lB _) hl
  simp[h] at this
 ·exact hl
def len1 (l:List Int):((l.length:Int)==1)=decide (l.length=1):=by
 by_cases e:l.length=1
 ·rw[e];rfl
 ·have:¬(l.length:Int)=1:=by omega
  rw[zl90 e];simpa using this
def SV (s:ei.D)(hs:Fe s)(n:Int):q25 (s,n)=some (Cu s n,()):=by
 have CM:∀i,i<s.2.2.1.length→My (((i:Int),n,s.2.2.1,(s.2.2.1.length:Int)),())=bif !Es s n i then some (.inl ((((i+1:Nat):Int),n,s.2.2.1,(s.2.2.1.length:Int)),())) else some (.inr (.inl (((fN s i).2.1,true),()))):=by
  intro i hi
  have eA:List.getD s.2.2.1 i ([],[],())=fN s i:=rfl
  have f1:List.getD (fN s i).1 0 0=je s i:=rfl
  have hi':decide ((i:Int)<(s.2.2.1.length:Int))=true:=by simpa using hi
  have h0:decide ((0:Int)≤(i:Int))=true:=by simp
  have w:=AX (i:=i) (by have:=hs.1;omega)
  have d1:=len1 (fN s i).1
  have d2:(je s i==n)=decide (je s i=n):=rfl
  have d3:(!decide ((fN s i).1.length=1) || decide ((0:Int)<((fN s i).1.length:Int)))=true:=by
   by_cases e:(fN s i).1.length=1
   ·simp[e]
   ·simp[e]
  cases hA:decide ((fN s i).1.length=1)<;>cases hB:decide (je s i=n)<;>simp only[hA,zl70,zl98,zl76,zl71] at d3<;>
   simp only[My,hi',h0,zl94,Int.toNat_zero,eA,f1,d1,d2,hA,hB,d3,w,Es,zU,dW,pO,zl70,zl98,Bool.and_true,zl74,zl76,zl99,zl92,zl73,Int.le_refl]
 have hl:Comes My (((0:Int),n,s.2.2.1,(s.2.2.1.length:Int)),()) (if BZ s n<s.2.2.1.length then .inl (((fN s (BZ s n)).2.1,true),()) else .inr ((),())):=by
  refine El (fun i=>(((i:Int),n,s.2.2.1,(s.2.2.1.length:Int)),())) (fun i=> !Es s n i) (fun i=>if i<s.2.2.1.length then(.inl (((fN s i).2.1,true),()):((List UInt8×Bool)×Unit)⊕(Unit×Unit)) else .inr ((),())) ?_ ?_ ?_
  ·intro i hi h
   simp only[CM i hi];rw[h];rfl
  ·intro i hi h
   simp only[CM i hi];rw[h,bQ hi];rfl
  ·simp[My]
 by_cases h:BZ s n<s.2.2.1.length
 ·rw[bQ h] at hl
  simp only[q25,cb hl,cv hl,Cu,bQ h,dW,ia]
 ·rw[cT h] at hl
  simp only[q25,cb hl,cv hl,Cu,cT h,dW,ia]
def pre (s:ei.D):Nat:=scan (fun n=>(Cu s n).2) s.1.toNat 0
def X5 (s:ei.D)(hs:Fe s)(h1:1≤s.1∧s.1≤24):Wh.q2 s=some ((pre s:Int),()):=by
 have hl:Comes Mz (((0:Int),()),s) ((pre s:Int),()):=by
  refine El (fun n=>(((n:Int),()),s)) (n:=s.1.toNat) (fun n=>(Cu s n).2) (fun n=>((n:Int),())) ?_ ?_ ?_
  ·intro i hi h
   have hi':decide ((i:Int)<s.1)=true:=by simp;omega
   have w:=AX (i:=i) (by omega)
   simp only[Mz,hi',zog,SV s hs,h,w,zU,qu,dW,pO,zl70]
  ·intro i hi h
   have hi':decide ((i:Int)<s.1)=true:=by simp;omega
   simp only[Mz,hi',zog,SV s hs,h,zU,qu,dW,zl98]
  ·have hi':decide (((s.1.toNat:Nat):Int)<s.1)=false:=by simp;omega
   simp only[Mz,hi',pO,ia]
 simp only[Wh.q2,cb hl,cv hl,dW,ia]
def WE {f:Nat→Int}{n:Nat}(h:∀i,0<i→i<n→f (i-1)<f i):∀j,j<n→∀i,i≤j→f i+((j:Int)-i)≤f j:=by
 intro j
 induction j with
 |zero=>intro _ i hi;have:i=0:=by omega
        subst this;omega
 |succ j ih=>
  intro hj i hi
  by_cases e:i=j+1
  ·subst e;omega
  ·have h1:f j<f (j+1):=h (j+1) (by omega) hj
   have:=ih (by omega) i (by omega)
   omega
def OY {s:ei.D}(h:CC s=true):(1≤s.1∧s.1≤24)∧(1≤s.2.1∧s.2.1≤16)∧ld s.2.2.1.length (zC s)=true∧cross s=true:=by
 simp only[CC,bB,mS] at h
 exact⟨h.1.1.1,h.1.1.2,h.1.2,h.2⟩
def XX {s:ei.D}(ha:ld s.2.2.1.length (zC s)=true){k m:Nat}(hk:k<s.2.2.1.length)(hm:m<(fN s k).1.length):0≤(fN s k).1.getD m 0∧(fN s k).1.getD m 0≤s.1-1:=by
 have:=T_ ha hk
 simp only[CB,bB] at this
 have:=wh.1 this.1 m hm
 simp only[CN,bB,mS] at this
 exact this.1
def afd {s:ei.D}(h:ld s.2.2.1.length (zC s)=true):∀i,0<i→i<s.2.2.1.length→je s (i-1)<je s i:=
 fun i h0 hi=>NO h i (i-1) (by omega) hi
def aed {s:ei.D}(h:CC s=true):((pre s:Nat):Int)=s.1↔(s.2.2.1.length:Int)=s.1:=by
 obtain⟨h1,_,ha,hx⟩:=OY h
 have hne:=Ss ha
 have hb:∀i,i<s.2.2.1.length→0≤je s i∧je s i≤s.1-1:=fun i hi=>XX ha hi (by have:=hne i hi;omega)
 have sp:=OU (fun n=>(Cu s n).2) s.1.toNat 0
 have sp':pre s≤s.1.toNat∧(∀j,j<pre s→(Cu s j).2=true)∧(pre s<s.1.toNat→(Cu s (pre s)).2=false):=
  ⟨by have:=sp.2.1;unfold pre;omega,fun j hj=>sp.2.2.1 j (lB _) hj,fun hh=>sp.2.2.2 (by unfold pre at hh;omega)⟩
 have gap:=WE (afd ha)
 have hle:(s.2.2.1.length:Int)≤s.1:=by
  rcases zl83 s.2.2.1.length with hz|hz
  ·omega
  ·have a:=gap (s.2.2.1.length-1) (by omega) 0 (lB _)
   have b:=hb (s.2.2.1.length-1) (by omega)
   have c:=hb 0 (by omega)
   omega
 constructor
 ·intro hp
  have hin:∀n:Nat,n<s.1.toNat→BZ s n<s.2.2.1.length∧je s (BZ s n)=n:=by
   intro n hn
   have:=sp'.2.1 n (by omega)
   unfold Cu at this
   by_cases hi:BZ s n<s.2.2.1.length
   ·have dJ:=XS hi
    simp only[Es,bB,mS] at dJ
    exact⟨hi,dJ.2⟩
   ·rw[cT hi] at this;cases this
  have g2:=WE (f:=fun n=>(BZ s n:Int)) (n:=s.1.toNat) (by
   intro i h0 hi
   have a:=hin i hi
   have b:=hin (i-1) (by omega)
   show((BZ s ((i-1:Nat):Int):Nat):Int)<((BZ s (i:Int):Nat):Int)
   rcases Nat.lt_trichotomy (BZ s ((i-1:Nat):Int)) (BZ s (i:Int)) with hlt|heq|hgt
   ·omega
   ·rw[heq] at b;omega
   ·have:=NO ha _ _ hgt b.1;omega)
  have c:=g2 (s.1.toNat-1) (by omega) 0 (lB _)
  have d:=(hin (s.1.toNat-1) (by omega)).1
  omega
 ·intro hl
  have hd:∀i,i<s.2.2.1.length→je s i=i:=by
   intro i hi
   have a:=gap i hi 0 (lB _)
   have b:=gap (s.2.2.1.length-1) (by omega) i (by omega)
   have c:=hb 0 (by omega)
   have d:=hb (s.2.2.1.length-1) (by omega)
   omega
  have hm:ld s.2.2.1.length (FZ s)=true:=by rw[W8 ha];exact hx
  have hone:∀i,i<s.2.2.1.length→(fN s i).1.length=1:=by
   intro i hi
   by_cases e:(fN s i).1.length=1
   ·exact e
   ·exfalso
    have h2:1<(fN s i).1.length:=by have:=hne i hi;omega
    have hr:=XX ha hi h2
    have ht:(fN s i).1.getD 1 0∈DN s i:=Tp.2 ⟨1,by omega,h2,rfl⟩
    have hlt:((fN s i).1.getD 1 0).toNat<s.2.2.1.length:=by omega
    have:=(To ha hi).1 (wh.1 hm i hi) _ hlt
    rw[hd _ hlt] at this
    have e2:((((fN s i).1.getD 1 0).toNat:Nat):Int)=(fN s i).1.getD 1 0:=by omega
    rw[e2] at this
    exact this ht
  have mG:∀n:Nat,n<s.2.2.1.length→(Cu s n).2=true:=by
   intro n hn
   have:BZ s n≤n:=ae_ hn (by simp only[Es,hone n hn,hd n hn,zl73,zl92])
   unfold Cu
   rw[bQ (by omega)]
  by_cases hlt:pre s<s.1.toNat
  ·have a:=sp'.2.2 hlt
   rw[mG (pre s) (by omega)] at a
   cases a
  ·have:=sp'.1
   omega
def Hz (a b:Int):(a==b)=decide (a=b):=rfl
def Da (g:nT.D):Bool:=Bx g.1&&CC g.2.1&&decide (g.2.1.1=cnt g.1)&&decide (g.2.1.2.1=g.1.2.1)
def Ou {p:gv.D}(h:Bx p=true):(1≤p.1∧p.1≤300)∧(1≤p.2.1∧p.2.1≤16):=by
 simp only[Bx,Cy,bB,mS] at h
 exact⟨h.1.1.1.1.1.1,h.1.1.1.1.1.2⟩
def Ui (g:nT.D)(hg:GB g):F_ g=some (Da g,()):=by
 have hP:=Uj g.1
 have hS:=aj0 g.2.1 hg.2
 cases h1:Bx g.1 with
 |false=>simp only[F_,zog,zog,hP,hS,h1,Da,zU,qu,dW,pO,zl98,zl93,zl76,zl92]
 |true=>
  obtain⟨a1,a2⟩:=Ou h1
  have hc:=MX g.1 a1 a2
  have d1:(g.2.1.1==cnt g.1)=decide (g.2.1.1=cnt g.1):=Hz _ _
  have d2:(g.2.1.2.1==g.1.2.1)=decide (g.2.1.2.1=g.1.2.1):=Hz _ _
  cases h2:CC g.2.1<;>cases h3:decide (g.2.1.1=cnt g.1)<;>
   simp only[F_,zog,zog,zog,hP,hS,hc,d1,d2,h1,h2,h3,Da,zU,qu,dW,pO,zl108,zl93,Bool.and_true,zl74,zl99,zl92]
def X4 (g:nT.D)(hg:GB g):Ih g=some (Da g,()):=by
 have hP:=afn g.1
 have hS:=afq g.2.1 hg.2
 cases h1:Bx g.1 with
 |false=>simp only[Ih,zog,zog,hP,hS,h1,Da,zU,qu,dW,pO,zl98,zl93,zl76,zl92]
 |true=>
  obtain⟨a1,a2⟩:=Ou h1
  have hc:=SU g.1 a1 a2
  have d1:(g.2.1.1==cnt g.1)=decide (g.2.1.1=cnt g.1):=Hz _ _
  have d2:(g.2.1.2.1==g.1.2.1)=decide (g.2.1.2.1=g.1.2.1):=Hz _ _
  cases h2:CC g.2.1<;>cases h3:decide (g.2.1.1=cnt g.1)<;>
   simp only[Ih,zog,zog,zog,hP,hS,hc,d1,d2,h1,h2,h3,Da,zU,qu,dW,pO,zl108,zl93,Bool.and_true,zl74,zl99,zl92]
def PW {g:nT.D}(h:Da g=true):Bx g.1=true∧CC g.2.1=true∧g.2.1.1=cnt g.1∧g.2.1.2.1=g.1.2.1:=by
 simp only[Da,bB,mS] at h
 exact⟨h.1.1.1,h.1.1.2,h.1.2,h.2⟩
def Eo (g:nT.D):Bool:=Da g&&decide ((g.2.1.2.2.1.length:Int)=cnt g.1)
def ac5 (g:nT.D)(hg:GB g):E6 g=some (Eo g,()):=by
 have hO:=Ui g hg
 have hO':=zov hO
 rcases Bool.eq_false_or_eq_true (Da g) with h1|h1
 case inr=>simp only[E6,hO',hO,h1,Eo,zU,qu,dW,pO,zl98,zl93,zl76,zl92]
 case inl=>
  obtain⟨a1,a2⟩:=Ou (PW h1).1
  have hc:=MX g.1 a1 a2
  have aI:=zov hc
  have d1:((g.2.1.2.2.1.length:Int)==cnt g.1)=decide ((g.2.1.2.2.1.length:Int)=cnt g.1):=Hz _ _
  simp only[E6,hO',aI,hO,hc,h1,d1,Eo,zU,qu,dW,zl70,zl108,zl71,zl92]
def aft (g:nT.D)(hg:GB g)(h:Da g=true):Wh.q5 g=some (Eo g,()):=by
 obtain⟨_,hs,e1,e2⟩:=PW h
 have hp:=X5 g.2.1 hg.2 (OY hs).1
 have hp':=zov hp
 have hd:=aed hs
 have:(((pre g.2.1:Nat):Int)==g.2.1.1)=Eo g:=by
  unfold Eo
  rw[h,zl108,←e1]
  rw[Hz]
  by_cases e:((pre g.2.1:Nat):Int)=g.2.1.1
  ·rw[zl86 e,zl86 (hd.1 e)]
  ·rw[zl90 e,zl90 (fun hh=>e (hd.2 hh))]
 simp only[Wh.q5,hp',hp,this,zU,qu,dW]
def GX (g:nT.D):Bool:=
 (g.1.1==0)&&(g.1.2.1==0)&&((g.1.2.2.1.length:Int)==0)&&((g.1.2.2.2.1.length:Int)==0)&&(g.2.1.1==0)&&(g.2.1.2.1==0)&&((g.2.1.2.2.1.length:Int)==0)
def afv (g:nT.D):KM g=some (GX g,()):=by
 simp only[KM,GX,Bool.cond_false_right]
def ajX (c:bm.D):KA c=some (GX c.2.2.2.2.2.1,()):=by
 simp only[KA,GX,Bool.cond_false_right]
 congr 2
 generalize ((c.2.2.2.2.2.1.1.2.2.1.length:Int)==0)=a1
 generalize ((c.2.2.2.2.2.1.1.2.2.2.1.length:Int)==0)=a2
 generalize (c.2.2.2.2.2.1.1.1==0)=a3
 generalize (c.2.2.2.2.2.1.1.2.1==0)=a4
 generalize (c.2.2.2.2.2.1.2.1.1==0)=a5
 generalize (c.2.2.2.2.2.1.2.1.2.1==0)=a6
 generalize ((c.2.2.2.2.2.1.2.1.2.2.1.length:Int)==0)=a7
 cases a1<;>cases a2<;>cases a3<;>cases a4<;>simp
def Bk (c:bm.D):Bool:=
 decide (0≤c.1∧c.1≤3)&&decide (0≤c.2.1∧c.2.1≤99999)&&decide (0≤c.2.2.1∧c.2.2.1≤4)&&decide (0≤c.2.2.2.2.1∧c.2.2.2.2.1≤99999) &&
 (bif c.2.2.2.2.1==0 then GX c.2.2.2.2.2.1 else Da c.2.2.2.2.2.1) &&
 (bif c.2.2.1==0 then c.2.2.2.1 == []&&c.2.2.2.2.1==0 else
  !(c.2.1==0)&&Fp c.2.2.2.1 &&
  (bif c.2.2.1==2 then !(c.2.2.2.2.1==0) && !Eo c.2.2.2.2.2.1 else bif c.2.2.1==3 then !(c.2.2.2.2.1==0)&&Eo c.2.2.2.2.2.1 else c.2.2.2.2.1==0 || !Eo c.2.2.2.2.2.1))
def ajW (c:bm.D)(hg:GB c.2.2.2.2.2.1)(hn:c.2.2.2.1.length≤4611686018427387904):Eh c=some (Bk c,()):=by
 have hL:∀x lo hi,zog gh (x,lo,hi)=(decide (lo≤x∧x≤hi),()):=fun x lo hi=>zov (AH x lo hi)
 have hN:=ajX c
 have hN':=zov hN
 have hO:=Ui _ hg
 have hO':=zov hO
 have hD:=ac5 _ hg
 have hD':=zov hD
 have hM:=ac6 _ hn
 have hM':=zov hM
 obtain⟨id,a,st,name,n,g,u⟩:=c
 dsimp only at hN hN' hO hO' hD hD' hM hM' ⊢
 simp only[Eh,Bk,hL,AH,hN,hN',hO,hO',hD,hD',hM,hM',qu,zl99,zU,zl92,dW]
 have e4:(n>0)=(0<n):=rfl
 simp only[e4]
 generalize hb:Eo g=b
 generalize hc:Da g=gc
 generalize hd:GX g=gd
 generalize he:Fp name=ge
 cases h1:decide (0≤id∧id≤3)
 case false=>simp only[zl98,dW,zl93]
 cases h2:decide (0≤a∧a≤99999)
 case false=>simp only[zl98,zl70,dW,pO,zl93,zl74]
 cases h3:decide (0≤st∧st≤4)
 case false=>simp only[zl98,zl70,dW,pO,zl93,zl74]
 cases h4:decide (0≤n∧n≤99999)
 case false=>simp only[zl98,zl70,dW,pO,zl93,zl74]
 have hn0:decide (0<n) = !(n==0):=by
  have:=zl79 h4
  rw[Hz]
  by_cases e:n=0
  ·subst e;rfl
  ·have:0<n:=by omega
   simp[e,this]
 rw[hn0]
 generalize (n==0)=n0
 generalize (a==0)=a0
 generalize (st==0)=s0
 generalize (st==2)=s2
 generalize (st==3)=s3
 generalize (name == [])=m0
 cases n0<;>cases gd<;>cases gc<;>cases s0<;>simp <;>cases a0<;>simp <;>cases ge<;>simp <;>cases s2<;>simp <;>cases s3<;>simp
def X3 (c:bm.D)(hg:GB c.2.2.2.2.2.1)(hn:c.2.2.2.1.length≤4611686018427387904):Gg c=some (Bk c,()):=by
 have hL:∀x lo hi,zog A8 (x,lo,hi)=(decide (lo≤x∧x≤hi),()):=fun x lo hi=>zov (Bo x lo hi)
 have hK:∀x,zog q62 x=(decide (0≤x∧x≤3),()):=fun x=>zov (WY x)
 have hN:=afv c.2.2.2.2.2.1
 have hN':=zov hN
 have hO:=X4 _ hg
 have hO':=zov hO
 have hM:=afm _ hn
 have hM':=zov hM
 have hD:=aft _ hg
 obtain⟨id,a,st,name,n,g,u⟩:=c
 dsimp only at hN hN' hO hO' hD hM hM' ⊢
 simp only[Gg,Bk,hL,hK,Bo,WY,hN,hN',hO,hO',hM,hM',qu,zl99,zU,zl92,dW]
 have e4:(n>0)=(0<n):=rfl
 simp only[e4]
 generalize hd:GX g=gd
 generalize he:Fp name=ge
 cases h1:decide (0≤id∧id≤3)
 case false=>simp only[zl98,dW,zl93]
 cases h2:decide (0≤a∧a≤99999)
 case false=>simp only[zl98,zl70,dW,pO,zl93,zl74]
 cases h4:decide (0≤n∧n≤99999)
 case false=>simp only[zl98,zl70,dW,pO,zl93,zl74]
 have hn0:decide (0<n) = !(n==0):=by
  have:=zl79 h4
  rw[Hz]
  by_cases e:n=0
  ·subst e;rfl
  ·have:0<n:=by omega
   simp[e,this]
 rw[hn0]
 have hst:decide (0≤st∧st≤4)=(st==0 || (st==1 || (st==2 || (st==3 || st==4)))):=by
  simp only[Hz,←Bool.decide_or]
  exact decide_eq_decide.2 ⟨fun h=>by omega,fun h=>by omega⟩
 rw[hst]
 have x12:(st==1)=true→(st==2)=false∧(st==3)=false:=by simp;intro e;subst e;decide
 have x42:(st==4)=true→(st==2)=false∧(st==3)=false:=by simp;intro e;subst e;decide
 generalize (n==0)=n0
 generalize (a==0)=a0
 generalize (st==0)=s0
 generalize (st==1)=s1 at *
 generalize (st==2)=s2 at *
 generalize (st==3)=s3 at *
 generalize (st==4)=s4 at *
 generalize (name == [])=m0
 rcases Bool.eq_false_or_eq_true (Da g) with hc|hc
 ·have hD1:=hD hc
  have hD2:=zov hD1
  simp only[hD1,hD2,hc,zl99,dW]
  generalize Eo g=b
  cases n0<;>cases gd<;>cases s0<;>simp <;>cases a0<;>simp <;>cases ge<;>simp <;>cases s1<;>simp at x12 ⊢ <;>cases s4<;>simp at x42 ⊢ <;>cases s2<;>simp at x12 x42 ⊢ <;>cases s3<;>simp at x12 x42 ⊢
 ·simp only[hc]
  generalize Eo g=b
  cases n0<;>simp <;>cases gd<;>simp <;>cases s0<;>simp <;>cases a0<;>simp <;>cases ge<;>simp <;>cases s1<;>simp at x12 ⊢ <;>cases s4<;>simp at x42 ⊢ <;>cases s2<;>simp at x12 x42 ⊢ <;>cases s3<;>simp at x12 x42 ⊢
structure Sml (c:bm.D):Prop where
 name:c.2.2.2.1.length≤1048576
 p3:c.2.2.2.2.2.1.1.2.2.1.length≤1048576
 p4:c.2.2.2.2.2.1.1.2.2.2.1.length≤1048576
 s3:c.2.2.2.2.2.1.2.1.2.2.1.length≤1048576
 row:∀x∈c.2.2.2.2.2.1.2.1.2.2.1,x.1.length≤1048576∧x.2.1.length≤1048576
def Sml.sm {c:bm.D}(h:Sml c):GB c.2.2.2.2.2.1:=
 ⟨⟨by have:=h.p3;omega,by have:=h.p4;omega⟩,by have:=h.s3;omega,fun x hx=>by have:=(h.row x hx).1;omega⟩
end Pc
open Go Go.Ab Go.Lib
namespace Pl
end Pl
open Go Go.Ab Go.Lib
namespace Pl
structure SI (s:b7.D):Prop where
 sm:CR s
 fT:s.2.2.2.1.2.1.length≤1000
 lg:s.2.2.1.length≤1000000
def PI (p:cp.D):Prop:=(p.1=9∨(0≤p.1∧p.1<4))∧p.2.1.length≤1048576
def ItI (x:an.D):Prop:=x.2.1.length≤1048576∧x.2.2.2.1.length≤1048576
structure GI (g:nT.D):Prop where
 p3:g.1.2.2.1.length≤1048576
 p4:g.1.2.2.2.1.length≤1048576
 s3:g.2.1.2.2.1.length≤1000000
 row:∀x∈g.2.1.2.2.1,x.1.length≤1048576∧x.2.1.length≤1048576
structure CI (c:bm.D):Prop where
 name:c.2.2.2.1.length≤1048576
 g:GI c.2.2.2.2.2.1
structure WI (n:Nat) (w:fk.D):Prop where
 Au:SI w.1
 cls:w.2.1.length=4
 cl:∀c∈w.2.1,CI c
 At:w.2.2.1.length≤60
 pk:∀p∈w.2.2.1,PI p
 FM:w.2.2.2.1.length≤1000*n
 gi:∀x∈w.2.2.2.1,ItI x
def FJ (a:Int)(v:eL.D):Prop:=v.2.2.2.2.2.1.length≤9999999∧(0≤a∨(0≤v.2.1∧v.2.1<4))
def WI.ev {n:Nat}{w:fk.D}(W:WI n w):EvW w:=⟨W.Au.fT,fun x hx=>(W.Au.sm.items x hx).1,by have:=W.At;omega⟩
def Df {a b:Nat}(h:a≤4194304)(k:b≤4194304):decide (a+b≤eV)=true:=zl86 (by unfold eV;omega)
def OV {n:Nat}{w:fk.D}(W:WI n w){to:Int}{l:List eL.D}(ht:to=9∨to = -1)(hl:∀v∈l,FJ to v)(hn:l.length≤1000):Rt (G5 (w,to,l)) (fun y=>WI n y.1):=by
 unfold G5
 refine Rt.loop (P:=fun y=>∃At,(At.length≤60∧∀p∈At,PI p)∧y.2.2.1.1=w.1∧y.2.2.2.2.2.2.2.2.2.2.1=w.2.1∧y.2.2.2.2.2.2.2.2.2.2.2.1=At∧y.2.2.2.2.2.2.2.2.2.2.2.2=w.2.2.2.1) (DO (n:=l.length) (I:=fun i x=>∃At,x=(((i:Int),(),l,to,()),(w.1,(),(),(),w.2.2.2.2),_,w.2.1,At,w.2.2.2.1,_)∧At.length≤60∧∀p∈At,PI p) ?_ ?_ 0 _ (lB _) ⟨w.2.2.1,rfl,W.At,W.pk⟩) fun y hy=>?_
 ·rintro i _ hi ⟨At,rfl,h1,h2⟩
  have hw:=hl _ (zl96 hi)
  by_cases hr:At.length<60
  ·left
   have wr:=adq (w:=l[i]) hw.1
   obtain⟨t,e,htl⟩:=wr
   have v:=zov e
   have d1:decide ((At.length:Int)<60)=true:=zdt
   have d2:=Df (a:=At.length) (b:=1) (by omega) (by omega)
   have gd:l.getD i ((0:Int),(0:Int),(0:Int),(0:Int),(0:Int),[],[],())=l[i]:=getD_eq _ _ _ hi
   rcases ht with rfl|rfl
   ·refine⟨_,by simp only[Mb,q38,MB,gl hi,g0,d1,d2,zl94,gd,e,v,qu,zU,zl92,dW,pO,show decide ((9:Int)<0)=false by decide,zw (i:=i)],At ++ [(9,t.1,false,())],rfl,by simp;omega,?_⟩
    intro p hp
    rcases bU.1 hp with hp|hp
    ·exact h2 p hp
    ·rw[i_.1 hp];exact⟨.inl rfl,by show t.1.length≤_;omega⟩
   ·refine⟨_,by simp only[Mb,q38,MB,gl hi,g0,d1,d2,zl94,gd,e,v,qu,zU,zl92,dW,show decide ((-1:Int)<0)=true by decide,zw (i:=i)],At ++ [(l[i].2.1,t.1,false,())],rfl,by simp;omega,?_⟩
    intro p hp
    rcases bU.1 hp with hp|hp
    ·exact h2 p hp
    ·rw[i_.1 hp];exact⟨.inr (hw.2.resolve_left (by omega)),by show t.1.length≤_;omega⟩
  ·have d1:decide ((At.length:Int)<60)=false:=zdf
   refine .inr ⟨_,by simp only[Mb,gl hi,d1,dW,pO];rfl,At,⟨h1,h2⟩,rfl,rfl,rfl,rfl⟩
 ·rintro _ ⟨At,rfl,h1,h2⟩
  have d1:decide ((l.length:Int)<(l.length:Int))=false:=zdf
  exact⟨_,by simp only[Mb,d1,pO];rfl,At,⟨h1,h2⟩,rfl,rfl,rfl,rfl⟩
 ·obtain⟨At,⟨h1,h2⟩,e1,e2,e3,e4⟩:=hy
  refine Rt.ok ?_
  dsimp only
  rw[e1,e2,e3,e4]
  exact⟨W.Au,W.cls,W.cl,h1,h2,W.FM,W.gi⟩
def Y3 {n:Nat}{w:fk.D}(W:WI n w)(hn:n≤1000):Rt (KB w) (fun y=>WI (n+1) y.1):=by
 have hi0:=W.Au.fT
 unfold KB
 refine Rt.loop (P:=fun y=>∃g,(g.length≤1000*n+1000∧∀x∈g,ItI x)∧y.2.2.1.1=w.1∧y.2.2.2.2.2.2.2.2.2.2.1=w.2.1∧y.2.2.2.2.2.2.2.2.2.2.2.1=w.2.2.1∧y.2.2.2.2.2.2.2.2.2.2.2.2=g) (DO (n:=w.1.2.2.2.1.2.1.length) (I:=fun i x=>∃g,x=(((i:Int),(),()),(w.1,(),(),(),w.2.2.2.2),_,w.2.1,w.2.2.1,g,_)∧g.length≤1000*n+i∧∀x∈g,ItI x) ?_ ?_ 0 _ (lB _) ⟨w.2.2.2.1,rfl,W.FM,W.gi⟩) fun y hy=>?_
 ·rintro i _ hi ⟨g,rfl,h1,h2⟩
  left
  have hm:=W.Au.sm.items _ (zl96 hi)
  have gd:w.1.2.2.2.1.2.1.getD i ((0:Int),[],(0:Int),[],())=w.1.2.2.2.1.2.1[i]:=getD_eq _ _ _ hi
  simp only[QH,gl hi,g0,zl94,gd,zU,zl92,dW,zl17,Df (a:=g.length) (b:=1) (by omega) (by omega),Df (a:=0) (b:=g.length) (by omega) (by omega),zw (i:=i)]
  cases decide (w.1.2.2.2.1.2.1[i].2.2.1>((g.length:Nat):Int))
  ·exact⟨_,rfl,g,rfl,by omega,h2⟩
  ·refine⟨_,rfl,g ++ [w.1.2.2.2.1.2.1[i]],rfl,by simp;omega,fun x hx=>?_⟩
   rcases bU.1 hx with hx|hx
   ·exact h2 x hx
   ·rw[i_.1 hx];exact hm
 ·rintro _ ⟨g,rfl,h1,h2⟩
  have d1:decide ((w.1.2.2.2.1.2.1.length:Int)<(w.1.2.2.2.1.2.1.length:Int))=false:=zdf
  exact⟨_,by simp only[QH,d1,pO];rfl,g,⟨by omega,h2⟩,rfl,rfl,rfl,rfl⟩
 ·obtain⟨g,⟨h1,h2⟩,e1,e2,e3,e4⟩:=hy
  refine Rt.ok ?_
  dsimp only
  rw[e1,e2,e3,e4]
  exact⟨W.Au,W.cls,W.cl,W.At,W.pk,by show g.length≤_;omega,h2⟩
def WI.up {n m:Nat}{w:fk.D}(W:WI n w)(h:n≤m):WI m w:=⟨W.Au,W.cls,W.cl,W.At,W.pk,by have:=W.FM;have:=Nat.mul_le_mul_left 1000 h;omega,W.gi⟩
section
variable {now cl hd:Int} {log:List UInt8} {fT:List It} {l:List Fr} {h:Nat} {S:List Sv} {B:List Bu}
def akj (T:TickI now cl hd fT l h S)(hB:B.length=2)(k j:Nat)(hk:k<S.length)(hj:D4 fT (S.getD k zS).2.2.1=some j) :
  Rt (L9 ((true,now,log,(cl,fT,()),(l,hd,()),B,S,()),(k:Int),fT.getD j z0)) (fun y=>∃l' B' S' n d,y.1=((true,now,log,(cl,fT,()),(l',n,()),B',S',()),[(3,(S.getD k zS).1,(S.getD k zS).2.1,(S.getD k zS).2.2.1,(S.getD k zS).2.2.2.1,[],d,())])∧l'.length=8∧B'.length=2∧S'.length=S.length):=by
 have hh (x:Int):Ci x=some (Int.tmod x 2,()):=rfl
 have hjl:=Sr hj
 obtain⟨i1,i2,i3⟩:=Yb T.cat hjl
 have hb:=hs_b T.Au hk
 have nxk:=T.nx k hk
 have edk:=T.ed k hk
 have ced:0≤cl∧cl≤99999:=T.cat.ed
 have i1:0≤(fT.getD j z0).1∧(fT.getD j z0).1≤1:=i1
 have i2:1≤(fT.getD j z0).2.2.2.1.length:=i2
 have i3:(fT.getD j z0).2.2.2.1.length≤300:=i3
 have et:(fT.getD j z0).2.2.1=(S.getD k zS).2.2.1:=eq_of_beq (CE.1 hj).2.1
 unfold hs at hb
 generalize hv:S.getD k zS=v at *
 generalize ht:fT.getD j z0=t at *
 obtain⟨id,hid⟩:∃id:Nat,v.2.2.2.1=(id:Int):=⟨v.2.2.2.1.toNat,by omega⟩
 obtain⟨s',c,q1,q2,q3,q4,q5,q6,q7⟩:=Zr t.2.2.2.1.length i2 i3
 have pz:=Zq t.2.2.2.1.length s' c
 have pl:=ahf t.2.2.2.1.length s' c
 have r1:=ajP t.2.2.2.1.length s' c id i3 q1 q2 q3 q4 q5 (by omega)
 have y1:=ajz t.2.2.2.1.length s' c t.2.2.2.1 rfl i3 q1 q2 q3 q5
 have y2:=ajQ t.2.2.2.1.length s' c id t.2.2.2.1 rfl q1 q2 q3 q4 q5
 have rl:=(acI (id:=id) q4).2
 have rm:∀i,i<(DM c id).length→m6 ((DM c id).getD i 0) 0 23=true:=fun i hi=>by
  have:=acJ (id:=id) q4 (x:=(DM c id).getD i 0) (by rw[getD_eq _ _ _ hi];exact zl96 hi)
  exact zdt
 generalize symV s' c id t.2.2.2.1=d at *
 generalize EP s' (Hx c s' t.2.2.2.1) c=ct at *
 generalize DM c id=row at *
 generalize DT t.2.2.2.1.length s' c=P at *
 obtain⟨P1,P2,W,ws,u⟩:=P
 have pz:P2=(s':Int):=pz
 subst pz
 have te:m6 t.2.2.1 1 99999=true:=zdt
 have t1:m6 t.1 0 1=true:=zdt
 unfold L9
 unfold zS at hv
 refine Rt.all (by simp only[gl hk,g0,zU,zl92]) ?_
 simp only[zl94,hv]
 refine Rt.val (P:=fun y=>y=((P1,(s':Int),W,ws,u),())) ⟨_,q6,rfl⟩ fun y hy e=>?_
 subst hy
 refine Rt.all (by simp only[e,qu,zU]) ?_
 rw[hid]
 refine Rt.call (P:=fun y=>y=(row,())) ⟨_,r1,rfl⟩ fun y hy=>?_
 subst hy
 refine Rt.loop (P:=fun y=>∃l' hd',Ca l' hd'∧y=(((),(),(),(),(),(),(k:Int)),(false,(0:Int),[],((0:Int),(),()),((),(0:Int),()),(),(),()),(P1,(s':Int),(),(),u),row,t,v,(true,now,log,(cl,(),()),((),((hd':Nat):Int),()),(),(),()),[],[],[],[],W,ws,fT,l',B,S))
  (DO (n:=row.length) (I:=fun i x=>∃l' hd',Ca l' hd'∧IG l'∧x=(((i:Int),(),(),(),(),(),(),(k:Int)),(true,now,log,(cl,(),()),((),((hd':Nat):Int),()),(),(),()),row,t,(false,(0:Int),[],((0:Int),(),()),((),(0:Int),()),(),(),()),(P1,(s':Int),(),(),u),v,fT,l',B,S,[],[],[],[],W,ws)) ?_ ?_ 0 _ (lB _) ⟨l,h,T.G1,T.free,by rw[T.hde];rfl⟩) fun y hy=>?_
 ·rintro i _ hi ⟨l1,j_,G,F,rfl⟩
  left
  have e1:=ajG l1 j_ t.1 t.2.2.1 (row.getD i 0) G.hd G.len fun k hk=>G.held k hk
  have wi:=zw (i:=i)
  rcases got_ok G F t1 te (rm i hi) with⟨l',hd',n,c,eq,hc,g⟩|⟨f,c,eq,hc⟩
  ·rw[eq] at e1
   have el:=ajJ g.g n g.lt g.one
   have aI:(bif(c==(0:Int)) then true else c==(1:Int))=true:=by rcases hc with rfl|rfl<;>rfl
   exact⟨_,by simp only[Ox,gl hi,g0,zl94,e1,zov e1,aI,el,zov el,Ax,wi],_,_,g.g',g.f',rfl⟩
  ·rw[eq] at e1
   have aI:(bif(c==(0:Int)) then true else c==(1:Int))=false:=by rcases hc with rfl|rfl<;>rfl
   exact⟨_,by simp only[Ox,gl hi,g0,zl94,e1,zov e1,aI,Ax,pO,wi],_,_,G,F,rfl⟩
 ·rintro _ ⟨l1,j_,G,F,rfl⟩
  have d1:decide ((row.length:Int)<(row.length:Int))=false:=zdf
  exact⟨_,by simp only[Ox,d1,pO],l1,j_,G,rfl⟩
 obtain⟨l',hd',G,rfl⟩:=hy
 refine Rt.call (P:=fun y=>y.1=Int.tmod v.1 2) ⟨_,hh _,rfl⟩ fun y hy=>?_
 have hk0:decide (0≤y.1)=true:=zl86 (by rw[hy];omega)
 have hk1:decide (y.1<(B.length:Int))=true:=zl86 (by rw[hy];omega)
 refine Rt.all (by simp only[hk0,hk1,zU,zl92]) (Rt.all (by simp only[g0,gl hk,zU,zl92]) (Rt.all (by simp only[g0,zl66,gl hk,zU,zl92]) ?_))
 refine Rt.val (P:=fun y=>y=(ct,())) ⟨_,y1,rfl⟩ fun y hy e2=>?_
 subst hy
 refine Rt.val (P:=fun y=>y.1=d) ⟨_,y2,rfl⟩ fun y hy e3=>?_
 refine Rt.all (by simp only[e2,e3,qu,zU,zl92]) (Rt.ok ⟨l',_,_,(hd':Int),y.1,by rw[←hid],G.len,by rw[zl66];exact hB,by rw[zl66,zl66]⟩)
def HrI (y:(b7.D×List eL.D)×Unit):Prop:=SI y.1.1∧y.1.2.length≤1000∧∀v∈y.1.2,FJ (-1) v
def hr0 {s:b7.D}(h:SI s):HrI ((s,[]),()):=⟨h,by simp,by simp⟩
def hr1 {s:b7.D}(h:SI s){v:eL.D}(hv:FJ (-1) v):HrI ((s,[v]),()):=⟨h,by simp,by simpa using hv⟩
def Pn:SI C8:=⟨Hu,by simp[C8],by simp[C8]⟩
def OW {s:b7.D}(Sm:CR s)(ho:AL s=true):SI s:=⟨Sm,by have:=(EX ho).len;omega,by have:=F0 ho;omega⟩
def akn {s:b7.D}(Sm:CR s):Rt (q34 s) HrI:=by
 have so:=MW s Sm
 unfold q34
 refine Rt.call (P:=fun y=>y.1=AL s) ⟨_,so,rfl⟩ fun y hy=>Rt.bif (fun _=>Rt.ok (hr0 Pn)) fun hc=>?_
 rw[hy] at hc
 have ok:AL s=true:=by simpa using hc
 have C:=(EX ok).len
 have sc:=MV s Sm (by omega)
 refine Rt.call (P:=fun y=>y=(s,())) ⟨_,sc,rfl⟩ fun y hy=>?_
 subst hy
 refine Rt.bif (fun _=>Rt.ok (hr0 (OW Sm ok))) fun hc=>?_
 obtain⟨up,now,log,⟨cl,fT,cu⟩,p,bk,S,u⟩:=s
 cases up with
 |false=>cases hc
 |true=>
 have h9:now<99999:=by simp at hc;omega
 have S1:S.length≤1048576:=Sm.Au
 obtain⟨l,h,b0,b1,rfl,rfl,T,o0,o1,a0,a1,N1⟩:=ok_up ok h9 (by omega)
 have n0:0≤now∧now≤99999:=by
  have q:=ok
  unfold AL at q
  simp only[bB] at q
  exact zl79 q.1
 obtain⟨N,hN⟩:∃N,now=N-1:=⟨now+1,by omega⟩
 subst hN
 rw[show N-1+1=N by omega] at T
 dsimp only
 rw[wrap64 (by omega) (by omega),show N-1+1=N by omega]
 refine Rt.loop (P:=fun y=>y=_) ⟨_,aj3 N log cl (h:Int) fT l S b0 b1,rfl⟩ fun y hy=>?_
 subst hy
 have hB: [bV b0 N,bV b1 N].length=2:=rfl
 have sj:=ajI (true,N,log,(cl,fT,()),(l,(h:Int),()),[bV b0 N,bV b1 N],S,()) T.Au T.cat rfl
 have jn:=acW (Yd T.Au (fun i=>(S.getD i zS).1) (O:=Dg [bV b0 N,bV b1 N] fT S S.length) (fun i hi=>(acN.1 hi).1) (acM _ _ _ _))
 rw[Yc] at jn
 dsimp only at sj
 have kS:∀b,CD (vO S (Dg [bV b0 N,bV b1 N] fT S S.length)) (Dg [bV b0 N,bV b1 N] fT S S.length).length=some b→(Dg [bV b0 N,bV b1 N] fT S S.length).getD b 0<S.length:=fun b e=>by
  have hb:=Lz e
  rw[getD_eq _ _ _ hb]
  exact(acN.1 (zl96 hb)).1
 generalize Dg [bV b0 N,bV b1 N] fT S S.length=K at *
 generalize [bV b0 N,bV b1 N]=B at *
 have SmX:∀(l:List Fr) (n:Int) (B:List Bu) (S':List Sv),l.length=8→B.length=2→S'.length≤S.length→SI (true,N,log,(cl,fT,()),(l,n,()),B,S',()):=fun l n B S' h1 h2 h3=>⟨⟨Sm.log,Sm.cat,Sm.items,by show l.length≤_;omega,by show B.length≤_;omega,by show S'.length≤_;omega⟩,by show fT.length≤_;have:fT.length≤8:=C;omega,by have:=F0 ok;show log.length≤_;have:log.length≤9000:=this;omega⟩
 have lp:=T.G1.len
 refine Rt.call (P:=fun y=>y=(Cc (fun i=>(S.getD i zS).1) S K,())) ⟨_,sj,rfl⟩ fun y hy=>?_
 subst hy
 refine Rt.call (P:=fun y=>y.1=Cr (CD (vO S K) K.length)) ⟨_,jn,rfl⟩ fun y hy=>Rt.bif (fun _=>Rt.ok (hr0 (SmX _ _ _ _ lp hB (bA _)))) fun hc=>?_
 rw[hy] at hc
 cases e:CD (vO S K) K.length with
 |none=>rw[e] at hc;cases hc
 |some b=>
 have hb:=Lz e
 have jl:b<(Cc (fun i=>(S.getD i zS).1) S K).length:=by rw[IX];exact hb
 have jg:=P5 (fun i=>(S.getD i zS).1) S K b hb
 have kl:=kS b e
 have at_:=ajw (true,N,log,(cl,fT,()),(l,(h:Int),()),B,S,()) T.Au (K.getD b 0) kl
 have hyb:y.1=((b:Nat):Int):=by rw[hy,e];rfl
 generalize K.getD b 0=k at *
 have ed1:=Rm (cl,fT,()) (S.getD k zS).2.2.1 (by show fT.length≤_;have:fT.length≤8:=C;omega)
 have vk:∀j (d:List UInt8) (a:Int),FJ (-1) (j,(S.getD k zS).1,(S.getD k zS).2.1,(S.getD k zS).2.2.1,a,[],d,()):=fun j d a=>⟨by simp,.inr ⟨(T.Au.cl k kl).1,by have:=(T.Au.cl k kl).2;show(S.getD k zS).1<4;omega⟩⟩
 dsimp only at at_ ed1
 unfold zJ at jg
 rw[hyb]
 dsimp only
 simp only[zl94,jg]
 refine Rt.val (P:=fun y=>y=(((k:Nat):Int),())) ⟨_,at_,rfl⟩ fun y hy e1=>?_
 subst hy
 refine Rt.all (by simp only[e1,qu,g0,gl jl,zU,zl92]) ?_
 have hz:List.getD S (Int.toNat ((k:Nat):Int)) ((0:Int),(0:Int),(0:Int),(0:Int),(0:Int),(0:Int),())=S.getD k zS:=by rw[zl94];rfl
 dsimp only
 rw[hz]
 refine Rt.val (P:=fun y=>y=((HG fT (D4 fT (S.getD k zS).2.2.1),(D4 fT (S.getD k zS).2.2.1).isSome),())) ⟨_,ed1,rfl⟩ fun y hy e2=>?_
 subst hy
 refine Rt.all (by simp only[e2,qu,g0,gl kl,zU,zl92]) ?_
 cases ej:D4 fT (S.getD k zS).2.2.1 with
 |none=>
  refine Rt.bif (fun _=>Rt.all (by simp only[g0,gl kl,zU,zl92]) ?_) fun hc=>by cases hc
  have w:=Rp (true,N,log,(cl,fT,()),(l,(h:Int),()),B,S,()) T.Au.len (S.getD k zS).1
  refine Rt.val (P:=fun y=>y=_) ⟨_,w,rfl⟩ fun y hy e3=>?_
  subst hy
  refine Rt.val (P:=fun y=>y=([((6:Int),(S.getD k zS).1,(S.getD k zS).2.1,(S.getD k zS).2.2.1,(0:Int),[],[],())],())) ⟨_,rfl,rfl⟩ fun y hy e4=>?_
  subst hy
  refine Rt.all (by simp only[e3,e4,qu,zU,zl92]) (Rt.ok (hr1 (SmX _ _ _ _ lp hB ?_) (vk _ _ _)))
  rw[wo_all T.Au k kl,zl113 kl];omega
 |some j=>
  refine Rt.bif (fun hc=>by cases hc) fun _=>?_
  refine Rt.call (akj T hB k j kl ej) fun y hy=>?_
  obtain⟨l',B',S',n,d,h1,h2,h3,h4⟩:=hy
  refine Rt.ok ?_
  rw[h1]
  exact hr1 (SmX _ _ _ _ h2 h3 (by omega)) (vk _ _ _)
end
def Sf {s:List UInt8}(b:Int)(hs:s.length≤1048576):Rt (DH (s,b)) (fun y=>∀x∈y.1,x.length≤s.length):=by
 unfold DH
 refine Rt.loop (P:=fun y=>∃f:Nat,f≤s.length∧y.1=((f:Int),s,())∧y.2.length≤s.length∧∀x∈y.2,x.length≤s.length)
  (DO (n:=s.length) (I:=fun i x=>∃(f:Nat) (l:List (List UInt8)),x=(((i:Int),(f:Int),s,(),b),l)∧f≤i∧l.length≤i∧∀x∈l,x.length≤s.length) ?_ ?_ 0 _ (lB _) ⟨0,[],rfl,bA _,bA _,by simp⟩) fun y hy=>?_
 ·rintro i _ hi ⟨f,l,rfl,h1,h2,h3⟩
  left
  simp only[DI,gl hi,g0,zl94,zU,zl92,dW,Df (a:=l.length) (b:=1) (by omega) (by omega),zdt (p:=(f:Int)≤(i:Int)),zdt (p:=(i:Int)≤(s.length:Int)),zw (i:=i)]
  cases (((s.getD i 0).toNat:Nat):Int)==b
  ·exact⟨_,rfl,f,l,rfl,by omega,by omega,h3⟩
  ·refine⟨_,rfl,i+1,_,rfl,by omega,by simp;omega,fun x hx=>?_⟩
   rcases bU.1 hx with hx|hx
   ·exact h3 x hx
   ·rw[i_.1 hx];simp;omega
 ·rintro _ ⟨f,l,rfl,h1,h2,h3⟩
  have d1:decide ((s.length:Int)<(s.length:Int))=false:=zdf
  exact⟨(((f:Int),s,()),l),by simp only[DI,d1,pO],f,h1,rfl,h2,h3⟩
 ·obtain⟨f,h1,e,h2,h3⟩:=hy
  dsimp only
  rw[e]
  refine Rt.all (by simp only[g0,zU,zl92,Df (a:=y.2.length) (b:=1) (by omega) (by omega),zdt (p:=(f:Int)≤(s.length:Int)),Int.le_refl,zl73]) (Rt.ok fun x hx=>?_)
  rcases bU.1 hx with hx|hx
  ·exact h3 x hx
  ·rw[i_.1 hx];simp
def Tu {s:List UInt8}(hs:s.length≤1048576):Rt (AD s) (fun _=>True):=⟨_,IZ _ (by omega),trivial⟩
def J0 {l:List (List UInt8)}{n:Nat}(h:∀x∈l,x.length≤n)(i:Nat):(l.getD i []).length≤n:=by
 by_cases hi:i<l.length
 ·rw[getD_eq _ _ _ hi];exact h _ (zl96 hi)
 ·rw[zl26,zl8 (by omega)];simp
def Y4 {s:List UInt8}(hs:s.length≤1048576):Rt (Ic s) (fun y=>y.1.length≤4):=by
 unfold Ic
 refine Rt.call (Sf 44 hs) fun y hy=>?_
 refine Rt.loop (P:=fun z=>z.2.length≤4) (DO (n:=4) (I:=fun i x=>∃l:List Int,x=(((i:Int),(),()),y.1,l)∧l.length≤i) ?_ ?_ 0 _ (lB _) ⟨[],rfl,bA _⟩) fun z hz=>Rt.ok hz
 ·rintro i _ hi ⟨l,rfl,h⟩
  by_cases h1:i<y.1.length
  ·obtain⟨z,e,_⟩:=Tu (s:=y.1.getD i []) (by have:=J0 hy i;omega)
   have d1:decide ((i:Int)≤3)=true:=zdt
   exact .inl ⟨(((((i+1:Nat)):Int),(),()),y.1,l ++ [z.1]),by simp only[OC,gl h1,d1,g0,zl94,e,zov e,qu,zU,zl92,dW,Df (a:=l.length) (b:=1) (by omega) (by omega),zw (i:=i)],_,rfl,by simp;omega⟩
  ·have d1:decide ((i:Int)<(y.1.length:Int))=false:=zdf
   exact .inr ⟨((),l),by simp only[OC,d1,pO],by dsimp only;omega⟩
 ·rintro _ ⟨l,rfl,h⟩
  refine⟨((),l),?_,h⟩
  have d1:(bif decide ((((4:Nat)):Int)<(y.1.length:Int)) then decide ((((4:Nat)):Int)≤3) else false)=false:=by cases decide ((((4:Nat)):Int)<(y.1.length:Int))<;>rfl
  simp only[OC,d1,pO]
def Yn {l:List Int}(hl:l.length≤3)(hx:∀x∈l,0≤x∧x≤9999999):Rt (Ib l) (fun y=>y.1.length≤24):=by
 unfold Ib
 refine Rt.loop (P:=fun y=>y.1.length≤24) (DO (n:=l.length) (I:=fun i x=>∃t:List UInt8,x=(((i:Int),l,t),())∧t.length≤8*i) ?_ ?_ 0 _ (lB _) ⟨[],rfl,bA _⟩) fun y hy=>Rt.ok hy
 ·rintro i _ hi ⟨t,rfl,h⟩
  left
  have hm:=hx _ (zl96 hi)
  obtain⟨u,e,hu⟩:=HF hm.1 hm.2
  have v:=zov e
  have gd:l.getD i 0=l[i]:=getD_eq _ _ _ hi
  have r1:=Df (a:=t.length) (b:=1) (by omega) (by omega)
  have r2:=Df (a:=t.length) (b:=u.1.length) (by omega) (by omega)
  have r3:=Df (a:=(t ++ [(44:UInt8)]).length) (b:=u.1.length) (by simp;omega) (by omega)
  simp only[QL,gl hi,g0,zl94,gd,e,v,qu,zU,zl92,dW,r1,r2,r3,zw (i:=i)]
  cases decide ((i:Int)>0)
  ·exact⟨_,rfl,_,rfl,by simp;omega⟩
  ·exact⟨_,rfl,_,rfl,by simp;omega⟩
 ·rintro _ ⟨t,rfl,h⟩
  have d1:decide ((l.length:Int)<(l.length:Int))=false:=zdf
  exact⟨(t,()),by simp only[QL,d1,pO],by dsimp only;omega⟩
def ahh {p:gv.D}(h:Pc.Bx p=true):(1≤p.1∧p.1≤300)∧(1≤p.2.1∧p.2.1≤16)∧(p.2.2.1.length≤3∧∀x∈p.2.2.1,0≤x∧x≤9999999)∧(p.2.2.2.1.length≤3∧∀x∈p.2.2.2.1,0≤x∧x≤9999999):=by
 unfold Pc.Bx Pc.Cy at h
 simp only[bB,mS] at h
 obtain⟨⟨⟨⟨⟨⟨a1,a2⟩,a3⟩,a4⟩,a5⟩,b⟩,_⟩:=h
 have hb:∀i,i<p.2.2.1.length→(1≤p.2.2.1.getD i 0∧p.2.2.1.getD i 0≤Pc.cnt p)∧(1≤p.2.2.2.1.getD i 0∧p.2.2.2.1.getD i 0≤99):=fun i hi=>by
  have:=Pc.wh.1 b i hi
  unfold Pc.F2 at this
  simp only[bB,mS] at this
  exact⟨this.1.1,this.2⟩
 refine⟨a1,a2,⟨a4.2,fun x hx=>?_⟩,by omega,fun x hx=>?_⟩
 ·obtain⟨i,hi,rfl⟩:=zl100 hx
  have:=(hb i hi).1
  rw[getD_eq _ _ _ hi] at this
  omega
 ·obtain⟨i,hi,rfl⟩:=zl100 hx
  have:=(hb i (by omega)).2
  rw[getD_eq _ _ _ hi] at this
  omega
def TU (p:gv.D):Rt (E5 p) (fun y=>y.1.length≤80):=by
 unfold E5
 refine Rt.call (P:=fun y=>y.1=Pc.Bx p) ⟨_,Pc.Uj p,rfl⟩ fun y hy=>Rt.bif (fun _=>Rt.ok (by simp)) fun hc=>?_
 rw[hy] at hc
 obtain⟨h1,h2,⟨h3,h4⟩,h5,h6⟩:=ahh (p:=p) (by simpa using hc)
 refine Rt.val (HF (show 0≤p.1 by omega) (by omega)) fun y1 k1 e1=>?_
 refine Rt.val (HF (show 0≤p.2.1 by omega) (by omega)) fun y2 k2 e2=>?_
 refine Rt.val (Yn h3 h4) fun y3 k3 e3=>?_
 refine Rt.val (Yn h5 h6) fun y4 k4 e4=>?_
 refine Rt.all ?_ (Rt.ok ?_)
 ·simp[e1,e2,e3,e4,qu,zU,eV]
  omega
 ·simp only[eY,zl6,rA]
  omega
def ahe {t:List UInt8}(ht:t.length≤1048576):Rt (q68 t) (fun y=>y.1.1.2.2.1.length≤4∧y.1.1.2.2.2.1.length≤4):=by
 unfold q68
 have z:Rt (some ((((0:Int),(0:Int),([]:List Int),([]:List Int),()),false),())) (fun y=>y.1.1.2.2.1.length≤4∧y.1.1.2.2.2.1.length≤4):=Rt.ok ⟨by simp,by simp⟩
 refine Rt.call (Sf 58 ht) fun y hy=>Rt.bif (fun _=>z) fun h3=>?_
 have h3:y.1.length=3:=by simp at h3;omega
 refine Rt.val (Sf 47 (by have:=J0 hy (Int.toNat 0);omega)) fun u hu e=>?_
 refine Rt.all (by simp only[e,qu,h3,zU];rfl) (Rt.bif (fun _=>z) fun h2=>?_)
 have h2:u.1.length=2:=by simp at h2;omega
 have hg:=J0 hy (Int.toNat 0)
 refine Rt.val (Y4 (by have:=J0 hy (Int.toNat 1);omega)) fun y1 k1 e1=>?_
 refine Rt.val (Y4 (by have:=J0 hy (Int.toNat 2);omega)) fun y2 k2 e2=>?_
 refine Rt.val (Tu (by have:=J0 hu (Int.toNat 1);omega)) fun y3 _ e3=>?_
 refine Rt.val (Tu (by have:=J0 hu (Int.toNat 0);omega)) fun y4 _ e4=>?_
 refine Rt.all (by simp only[e1,e2,e3,e4,qu,h3,h2,zU];rfl) ?_
 exact Rt.call (TU _) fun _ _=>Rt.bif (fun _=>z) fun _=>Rt.ok ⟨k1,k2⟩
section
variable {up:Bool} {now cl:Int} {log:List UInt8} {fT:List It} {p:Po} {bk:List Bu} {S:List Sv} {w:eL.D}
def OpI (S0:b7.D)(y:(b7.D×List eL.D)×Unit):Prop:=(∃S',S'.length≤1000∧y.1.1=(S0.1,S0.2.1,S0.2.2.1,S0.2.2.2.1,S0.2.2.2.2.1,S0.2.2.2.2.2.1,S',S0.2.2.2.2.2.2.2))∧y.1.2.length≤1000∧∀v∈y.1.2,FJ (-1) v
def UD (S:List Sv)(c:Int):(wo S c S.length).length≤S.length:=UE S c S.length
def ins_le (S:List Sv)(v:Sv):(P4 S v).length≤S.length+1:=by unfold P4;simp;omega
def ag1 (I:EN S now)(C:BK (cl,fT,()))(hw:0≤w.2.1∧w.2.1≤3):Rt (L8 ((true,now,log,(cl,fT,()),p,bk,S,()),w)) (OpI (true,now,log,(cl,fT,()),p,bk,S,())):=by
 have l4:=ac9 I
 have hn:=I.len
 have same:∀{v:eL.D},FJ (-1) v→OpI (true,now,log,(cl,fT,()),p,bk,S,()) (((true,now,log,(cl,fT,()),p,bk,S,()),[v]),()):=fun hv=>⟨⟨S,by omega,rfl⟩,by simp,by simpa using hv⟩
 have wd:∀a b c d (t:List UInt8),FJ (-1) (a,w.2.1,b,c,d,[],t,()):=fun a b c d t=>⟨by simp,.inr ⟨hw.1,by show w.2.1<4;omega⟩⟩
 have hh (x:Int):Ci x=some (Int.tmod x 2,()):=rfl
 have gone:∀e:Int,Jj (w.2.1,w.2.2.1,e)=some ([((6:Int),w.2.1,w.2.2.1,e,(0:Int),[],[],())],()):=fun _=>rfl
 have pw:∀{it:It},it∈fT→∃P t,Ch ((it.2.2.2.1.length:Nat):Int)=some (P,())∧E5 P=some (t,()):=fun {it} hi=>by
  obtain⟨_,h1,h2⟩:=Ji (C.ok it hi)
  obtain⟨s',c,_,_,_,_,_,q6,_⟩:=Zr it.2.2.2.1.length h2.1 h2.2
  obtain⟨t,e,_⟩:=TU (DT it.2.2.2.1.length s' c)
  exact⟨_,t.1,q6,e⟩
 unfold L8
 have at_:=ac2 (true,now,log,(cl,fT,()),p,bk,S,()) hn w.2.1
 refine Rt.call (P:=fun y=>y.1=Cr (svO S w.2.1)) ⟨_,at_,rfl⟩ fun y hy=>?_
 have ko:∀c:Bool,(!decide (y.1≥0) || decide ((0:Int)≤y.1))=true∧(!decide (y.1≥0) || decide (y.1<(S.length:Int)))=true∧((!!bif decide (y.1<0) then true else c) || decide ((0:Int)≤y.1))=true∧((!!bif decide (y.1<0) then true else c) || decide (y.1<(S.length:Int)))=true∧(!!decide (y.1<0) || decide ((0:Int)≤y.1))=true∧(!!decide (y.1<0) || decide (y.1<(S.length:Int)))=true:=by
  intro c
  cases e:svO S w.2.1 with
  |none=>rw[e] at hy;rw[hy];cases c<;>simp[Cr]
  |some k=>
   rw[e] at hy
   have:=(CE.1 e).1
   have e1:decide (y.1<(S.length:Int))=true:=zl86 (by rw[hy];show((k:Nat):Int)<_;omega)
   have e2:decide ((0:Int)≤y.1)=true:=zl86 (by rw[hy];show(0:Int)≤((k:Nat):Int);omega)
   rw[e1,e2]
   simp
 have k1:=ko true
 refine Rt.all (by simp only[k1,zU,zl92]) (Rt.bif (fun _=>Rt.ok ⟨⟨S,by omega,rfl⟩,by simp,by simp⟩) fun _=>?_)
 refine Rt.val (P:=fun u=>u.1=Int.tmod w.2.1 2) ⟨_,hh _,rfl⟩ fun u hu e1=>?_
 obtain⟨it,ok,eg,hm⟩:∃it ok,Ee ((cl,fT,()),u.1,w.2.2.2.2.2.1)=some ((it,ok),())∧(ok=true→it∈fT):=by
  cases ha:C9 fT u.1 w.2.2.2.2.2.1 with
  |none=>exact⟨_,_,adP C ha,by intro h;cases h⟩
  |some i=>obtain⟨hi,e⟩:=adQ C ha;exact⟨_,_,e,fun _=>by show fT.getD i z0∈fT;rw[getD_eq _ _ _ hi];exact zl96 _⟩
 refine Rt.val (P:=fun u=>u=((it,ok),())) ⟨_,eg,rfl⟩ fun z hz e2=>?_
 subst hz
 refine Rt.all (by simp only[e1,e2,qu,zU,zl92]) (Rt.bif (fun _=>?_) fun hc=>?_)
 ·refine Rt.all (by simp only[k1,zU,zl92]) (Rt.bif (fun _=>?_) fun _=>?_)
  ·have wo_:=Rp (true,now,log,(cl,fT,()),p,bk,S,()) hn w.2.1
   have:=UD S w.2.1
   refine Rt.call (P:=fun y=>y=_) ⟨_,wo_,rfl⟩ fun y hy=>Rt.call (P:=fun y=>y=_) ⟨_,gone _,rfl⟩ fun z hz=>?_
   subst hy hz
   exact Rt.ok ⟨⟨_,by dsimp only;omega,rfl⟩,by simp,by simpa using wd _ _ _ _ _⟩
  ·refine Rt.call (P:=fun y=>y=_) ⟨_,gone _,rfl⟩ fun z hz=>?_
   subst hz
   exact Rt.ok (same (wd _ _ _ _ _))
 ·have ok1:ok=true:=by cases ok with | true=>rfl|false=>cases hc
  obtain⟨P,t,p1,p2⟩:=pw (hm ok1)
  have k2:=ko (decide ((List.getD S (Int.toNat y.1) ((0:Int),(0:Int),(0:Int),(0:Int),(0:Int),(0:Int),())).2.1<w.2.2.1))
  refine Rt.all (by simp only[k2,zU,zl92]) (Rt.bif (fun _=>?_) fun _=>?_)
  ·have wi:=ajV (true,now,log,(cl,fT,()),p,bk,S,()) (by show S.length≤1000;omega) (w.2.1,w.2.2.1,it.2.2.1,(0:Int),(0:Int),now,())
   have h1:=ins_le (wo S w.2.1 S.length) (w.2.1,w.2.2.1,it.2.2.1,(0:Int),(0:Int),now,())
   have h2:=UD S w.2.1
   refine Rt.call (P:=fun y=>y=_) ⟨_,wi,rfl⟩ fun y hy=>?_
   subst hy
   refine Rt.val (P:=fun y=>y=(P,())) ⟨_,p1,rfl⟩ fun y hy e3=>?_
   subst hy
   refine Rt.val (P:=fun y=>y=(t,())) ⟨_,p2,rfl⟩ fun y hy e4=>?_
   subst hy
   exact Rt.all (by simp only[e3,e4,qu,zU,zl92]) (Rt.ok ⟨⟨_,by dsimp only;omega,rfl⟩,by simp,by simpa using wd _ _ _ _ _⟩)
  ·refine Rt.val (P:=fun y=>y=(P,())) ⟨_,p1,rfl⟩ fun y hy e3=>?_
   subst hy
   refine Rt.val (P:=fun y=>y=(t,())) ⟨_,p2,rfl⟩ fun y hy e4=>?_
   subst hy
   exact Rt.all (by simp only[e3,e4,qu,zU,zl92]) (Rt.ok (same (wd _ _ _ _ _)))
def afg (I:EN S now)(C:BK (cl,fT,()))(hw:0≤w.2.1∧w.2.1≤3):Rt (L6 ((true,now,log,(cl,fT,()),p,bk,S,()),w)) (OpI (true,now,log,(cl,fT,()),p,bk,S,())):=by
 have l4:=ac9 I
 have hn:=I.len
 unfold L6
 refine Rt.bif (fun _=>Rt.call (ag1 I C hw) fun y hy=>Rt.ok hy) fun _=>?_
 have at_:=ac2 (true,now,log,(cl,fT,()),p,bk,S,()) hn w.2.1
 refine Rt.call (P:=fun y=>y.1=Cr (svO S w.2.1)) ⟨_,at_,rfl⟩ fun y hy=>?_
 have st:OpI (true,now,log,(cl,fT,()),p,bk,S,()) (((true,now,log,(cl,fT,()),p,bk,S,()),[]),()):=⟨⟨S,by omega,rfl⟩,by simp,by simp⟩
 cases e:svO S w.2.1 with
 |none=>
  rw[e] at hy
  rw[hy]
  exact Rt.all rfl (Rt.bif (fun _=>Rt.ok st) fun hc=>by cases hc)
 |some k=>
  rw[e] at hy
  have hk:=(CE.1 e).1
  have hy:y.1=((k:Nat):Int):=hy
  rw[hy]
  have dk:decide (((k:Nat):Int)<0)=false:=zdf
  refine Rt.all (by simp only[g0,gl hk,zl99,zU,zl92]) (Rt.bif (fun _=>Rt.ok st) fun _=>?_)
  refine Rt.box q36_v (P:=fun y=>∃S',S'.length≤1000∧((∃z,y = .inl (((),()),z,(true,now,log,(cl,fT,()),p,bk,(),()),[],[],[],[],S'))∨(∃z,y = .inr (((),()),z,(true,now,log,(cl,(),()),((),p.2),(),(),()),[],[],[],[],fT,p.1,bk,S')))) ?_ fun y hy=>?_
  ·unfold q36
   refine Rt.bif (fun _=>?_) fun _=>?_
   ·have wo_:=Rp (true,now,log,(cl,fT,()),p,bk,S,()) hn w.2.1
    have:=UD S w.2.1
    refine Rt.call (P:=fun y=>y=_) ⟨_,wo_,rfl⟩ fun y hy=>?_
    subst hy
    exact Rt.ok ⟨_,by dsimp only;omega,.inl ⟨_,rfl⟩⟩
   ·refine Rt.all (by simp only[g0,gl hk,zl99,zU,zl92]) (Rt.bif (fun _=>Rt.all (by simp only[g0,gl hk,zU,zl92]) (Rt.ok ⟨_,?_,.inr ⟨_,rfl⟩⟩)) fun _=>Rt.ok ⟨S,by omega,.inr ⟨_,rfl⟩⟩)
    dsimp only;rw[zl66];omega
  ·obtain⟨S',h1,⟨z,rfl⟩|⟨z,rfl⟩⟩:=hy
   ·exact Rt.sum (fun y e=>by cases e;exact Rt.ok ⟨⟨S',h1,rfl⟩,by simp,by simp⟩) fun y e=>by cases e
   ·exact Rt.sum (fun y e=>by cases e) fun y e=>by cases e;exact Rt.ok ⟨⟨S',h1,rfl⟩,by simp,by simp⟩
end
def aff {s:b7.D}(Sm:CR s){w:eL.D}(hw:Ej w=true):Rt (q31 (s,w)) HrI:=by
 have so:=MW s Sm
 have sz:=RN hw
 unfold q31
 refine Rt.call (P:=fun y=>y.1=AL s) ⟨_,so,rfl⟩ fun y hy=>Rt.bif (fun _=>Rt.ok (hr0 Pn)) fun hc=>?_
 rw[hy] at hc
 have ok:AL s=true:=by simpa using hc
 have C:=(EX ok).len
 have sc:=MV s Sm (by omega)
 refine Rt.call (P:=fun y=>y=(s,())) ⟨_,sc,rfl⟩ fun y hy=>?_
 subst hy
 have a:=O3 w (by omega)
 refine Rt.val (P:=fun y=>y.1=Ej w) ⟨_,a,rfl⟩ fun y hw2 e1=>?_
 refine Rt.all (by simp only[e1,qu,zU,zl99]) (Rt.bif (fun _=>Rt.ok (hr0 (OW Sm ok))) fun hc=>?_)
 obtain⟨up,now,log,⟨cl,fT,cu⟩,p,bk,S,u⟩:=s
 cases up with
 |false=>cases hc
 |true=>
 rw[hw2,hw] at hc
 have h4:w.2.1<4:=by simpa using hc
 have S1:S.length≤1048576:=Sm.Au
 have I:=ok_srv ok (by omega)
 refine Rt.call (afg I (EX ok) ⟨sz.2.1.1,by show w.2.1≤3;omega⟩) fun y hy=>?_
 obtain⟨⟨S',h1,h2⟩,h3,h5⟩:=hy
 refine Rt.ok ⟨?_,h3,h5⟩
 rw[h2]
 have:fT.length≤8:=C
 exact⟨⟨Sm.log,Sm.cat,Sm.items,Sm.G1,Sm.bks,by show S'.length≤_;omega⟩,by show fT.length≤_;omega,by have:log.length≤9000:=F0 ok;show log.length≤_;omega⟩
end Pl
