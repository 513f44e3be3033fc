import Derived.Test.YthanhdmbelbfcaaGreatX8
set_option linter.defProp false
namespace Wh
end Wh
open Wh
open Go Go.Ab Go.Lib
namespace Pl
def ZA (L s c:Nat)(h2:L≤300)(h3:1≤s)(h4:s≤13)(h5:(L+s-1) / s=c):Br (DW L s c)=some ((c:Int),()):=by
 have e:=fun W ws=>count_eq (L:Int) (s:Int) W ws () (by omega)
 rw[Ny L s (by omega) h3 (by omega),h5] at e
 unfold DW
 cases decide ((c+3) / 4<c)<;>exact e _ _
def ajZ (L s c id:Nat)(h2:L≤300)(h3:1≤s)(h4:s≤13)(h5:(L+s-1) / s=c)(h6:1≤c)(h7:c≤24)(hid:id≤9999):Fz (DW L s c,(id:Int))=some (DO c id,()):=by
 have ec:=ZA L s c h2 h3 h4 h5
 by_cases hc:id<c
 ·have d:decide ((id:Int)<(c:Int))=true:=zdt
  simp only[Fz,ec,zov ec,Fo,zU,dW,d,DO,bQ hc]
 ·have d:decide ((id:Int)<(c:Int))=false:=zdf
  have w:=RQ c id h6
  have n1:=O3 id (by omega)
  have er:=ac_ (Lq c id) id w.1 (by omega) (by omega)
  have ew:Hg (DW L s c,(id:Int))=some ((Lq c id:Int),()):=by
   unfold DW Lq
   have sl:=MX id
   generalize pg id=S at *
   by_cases hk:(c+3) / 4<c
   ·have p1:EH ((S:Int),5)=some ((BV S 5:Int),()):=O4 _ 5 sl (by decide)
    have pl:=Kq S 5 (by decide)
    generalize BV S 5=K at *
    have c1:=akl (L:Int) (s:Int) (((c+3) / 4:Nat):Int) (c:Int) (id:Int)
    have c2:=akN (L:Int) (s:Int) (((c+3) / 4:Nat):Int) (c:Int) K pl
    rw[zl86 hk,dW,bQ hk]
    simp only[Hg,cb c1,cv c1,n1,zov n1,p1,zov p1,AA,cb c2,cv c2]
    split<;>rfl
   ·have p1:EH ((S:Int),1)=some ((BV S 1:Int),()):=O4 _ 1 sl (by decide)
    have pl:=Kq S 1 (by decide)
    generalize BV S 1=K at *
    obtain rfl:K=0:=by omega
    have c1:=akk (L:Int) (s:Int) (c:Int) (id:Int)
    have c2:=akM (L:Int) (s:Int) (c:Int)
    rw[zl90 hk,pO,cT hk]
    simp only[Hg,cb c1,cv c1,n1,zov n1,p1,zov p1,AA,Int.natCast_zero,cb c2,cv c2]
  simp only[Fz,ec,zov ec,AA,pO,d,DO,cT hc,ew,zov ew,er,zov er]
def Ut (l:List Int):(tv l).length=l.length:=by simp[tv]
def agP:∀(d n k m:Nat),n≤500→n<2 ^ d→k*2 ^ d≤1024→m+n*k≤1024 →
  Comes Mk (((n:Int),List.replicate k (0:UInt8),List.replicate m (0:UInt8)),()) (List.replicate (m+n*k) (0:UInt8),()):=by
 intro d
 induction d with
 |zero=>
  intro n k m h0 h1 h2 h3
  obtain rfl:n=0:=by omega
  rw[Nat.zero_mul,zl50]
  exact .out rfl
 |succ d ih=>
  intro n k m h0 h1 h2 h3
  by_cases hn:n=0
  ·subst hn;rw[Nat.zero_mul,zl50];exact .out rfl
  rw[Nat.pow_succ] at h1 h2
  have hp:1≤2 ^ d:=Nat.one_le_two_pow
  have e0:decide ((n:Int)>0)=true:=zdt
  have e1:Int.tmod (n:Int) 2=((n % 2:Nat):Int):=O9 n 2
  have e2:IntKind.wrap .i64 (Int.tdiv (n:Int) 2)=((n / 2:Nat):Int):=Fb (O7 n 2) (by omega)
  have ek:k≤1024:=nV (Nat.le_mul_of_pos_right k (Nat.mul_pos hp (by omega))) h2
  have b1:decide ((List.replicate k (0:UInt8)).length+(List.replicate k (0:UInt8)).length≤eV)=true:=by
   rw[zl67];unfold eV;exact zdt
  have ekk:List.replicate k (0:UInt8)++List.replicate k (0:UInt8)=List.replicate (k+k) (0:UInt8):=List.replicate_append_replicate
  have em:List.replicate m (0:UInt8)++List.replicate k (0:UInt8)=List.replicate (m+k) (0:UInt8):=List.replicate_append_replicate
  have hk2:(k+k)*2 ^ d≤1024:=by rw[←Nat.two_mul,Nat.mul_comm 2 k,Nat.mul_assoc,Nat.mul_comm 2];exact h2
  have hd:n / 2<2 ^ d:=by omega
  by_cases ho:n % 2=1
  ·have hnk:n*k=(n / 2)*(k+k)+k:=by
    rw[←Nat.two_mul,←Nat.mul_assoc]
    have:n=n / 2*2+1:=by omega
    rw[←Nat.succ_mul];congr 1
   have b2:decide ((List.replicate m (0:UInt8)).length+(List.replicate k (0:UInt8)).length≤eV)=true:=by
    rw[zl67,zl67];unfold eV;exact zdt
   have:=ih (n / 2) (k+k) (m+k) (by omega) hd hk2 (by omega)
   rw[show m+k+n / 2*(k+k)=m+n*k by omega] at this
   refine .again ?_ this
   simp only[Mk,e0,e1,e2,ho,b1,b2,ekk,em,dW,zU,Int.cast_ofNat_Int,zl95]
  ·have hnk:n*k=(n / 2)*(k+k):=by
    rw[←Nat.two_mul,←Nat.mul_assoc];congr 1;omega
   have:=ih (n / 2) (k+k) m (by omega) hd hk2 (by omega)
   rw[←hnk] at this
   refine .again ?_ this
   have ez:n % 2=0:=by omega
   have:(((0:Nat):Int)==1)=false:=rfl
   simp only[Mk,e0,e1,e2,ez,b1,ekk,dW,pO,zU,this]
def ade (n:Nat)(h:n≤500):KN (tv [(0:Int)],(n:Int))=some (List.replicate n 0,()):=by
 have c:=agP 10 n 1 0 h (by omega) (by omega) (by omega)
 rw[lA,Nat.mul_one] at c
 have c':Comes Mk (((n:Int),tv [(0:Int)],[]),()) _:=c
 simp only[KN,cb c',cv c',dW,ia]
def adf (n:Nat)(h:n≤500):Jr (n:Int)=some (List.replicate n 0,()):=by
 have e:=ade n h
 simp only[Jr,e,zov e,Fo,zU,dW]
def xI (a b:List UInt8)(i:Nat):Int:=pZ Go.BinOp.xor Go.IntKind.u8 ((a.getD i 0).toNat:Int) ((b.getD i 0).toNat:Int)
def xL (a b:List UInt8)(i:Nat):List Int:=(List.range i).map (xI a b)
def adB (a b:List UInt8)(i:Nat):(xL a b i).length=i:=by simp[xL]
def akU (a b:List UInt8)(i:Nat):xL a b (i+1)=xL a b i ++ [xI a b i]:=by simp[xL,List.range_succ]
def Fc (a b:List UInt8):List UInt8:=tv (xL a b a.length)
def UO (a b:List UInt8):(Fc a b).length=a.length:=by rw[Fc,Ut,adB]
def Uo (a b:List UInt8)(h:a.length=b.length)(hl:a.length≤1000):F5 (a,b)=some (Fc a b,()):=by
 have c:=Bb (r:=Mf) (fun i=>(((i:Int),b,a,()),xL a b i)) (n:=a.length) (y:=((),xL a b a.length)) (by
  intro i hi
  have hr:decide (i+1≤eV)=true:=by unfold eV;exact zdt
  have hb:i<b.length:=by omega
  simp only[Mf,gl hi,gl hb,g0,adB,hr,dW,zU,zl92,zl94,zw (i:=i),akU,xI]) (by
  have:decide ((a.length:Int)<(a.length:Int))=false:=zdf
  simp only[Mf,this,pO]) 0 (by omega)
 have c':Comes Mf (((0:Int),b,a,()),[]) _:=c
 simp only[F5,cb c',cv c',dW,Fc,ia]
def Hq (s:Nat)(bl:List (List UInt8))(row:List Int):List UInt8:=row.foldl (fun o x=>Fc o (bl.getD x.toNat [])) (List.replicate s 0)
def adk (s:Nat)(bl:List (List UInt8))(row:List Int):(Hq s bl row).length=s:=by
 unfold Hq
 have:∀(r:List Int) (o:List UInt8),o.length=s→(r.foldl (fun o x=>Fc o (bl.getD x.toNat [])) o).length=s:=by
  intro r
  induction r with
  |nil=>intro o h;exact h
  |cons x r ih=>intro o h;exact ih _ (by rw[UO,h])
 exact this row _ zl67
def akm (s:Nat)(bl:List (List UInt8))(row:List Int)(i:Nat)(h:i<row.length):Hq s bl (row.take (i+1))=Fc (Hq s bl (row.take i)) (bl.getD (row.getD i 0).toNat []):=by
 unfold Hq
 rw[zl88 h,List.foldl_append,getD_eq _ _ _ h];rfl
structure Bls (s:Nat) (bl:List (List UInt8)) (row:List Int):Prop where
 s1:1≤s
 s2:s≤13
 sz:∀x∈bl,x.length=s
 n1:1≤bl.length
 n2:bl.length≤24
 mem:∀x∈row,0≤x∧x<(bl.length:Int)
 AU:row.Pairwise (· < ·)
 len:row.length≤24
def Bls.at {s:Nat}{bl:List (List UInt8)}{row:List Int}(B:Bls s bl row){i:Nat}(h:i<row.length):0≤row.getD i 0∧row.getD i 0<(bl.length:Int)∧(bl.getD (row.getD i 0).toNat []).length=s:=by
 have m:=B.mem (row.getD i 0) (by rw[getD_eq _ _ _ h];exact zl96 h)
 refine⟨m.1,m.2,?_⟩
 have hk:(row.getD i 0).toNat<bl.length:=by omega
 rw[getD_eq _ _ _ hk]
 exact B.sz _ (zl96 hk)
def ajY {s:Nat}{bl:List (List UInt8)}{row:List Int}(B:Bls s bl row):JA (bl,row,(s:Int))=some (Hq s bl row,()):=by
 have hz:=ade s (by have:=B.s2;omega)
 have c:=Bb (r:=Ms) (fun i=>(((i:Int),row,bl,Hq s bl (row.take i)),())) (n:=row.length) (y:=(Hq s bl row,())) (by
  intro i hi
  obtain⟨m1,m2,m3⟩:=B.at hi
  have hx:=Uo (Hq s bl (row.take i)) (bl.getD (row.getD i 0).toNat []) (by rw[adk,m3]) (by rw[adk];have:=B.s2;omega)
  have hl:=B.len
  have d1:=zl86 m1
  have d2:=zl86 m2
  simp only[Ms,gl hi,g0,zl94,hx,zov hx,d1,d2,AA,zw (i:=i),akm _ _ _ _ hi]) (by
  have:decide ((row.length:Int)<(row.length:Int))=false:=zdf
  simp only[Ms,this,pO,zl102,ia]) 0 (by omega)
 have c':Comes Ms (((0:Int),row,bl,List.replicate s 0),()) _:=c
 simp only[JA,hz,zov hz,Fo,zU,dW,cb c',cv c']
def aho (L s c:Nat):(DW L s c).1=(L:Int):=by unfold DW;cases decide ((c+3) / 4<c)<;>rfl
def ZB (L s c:Nat):(DW L s c).2.1=(s:Int):=by unfold DW;cases decide ((c+3) / 4<c)<;>rfl
def Nz (s:Nat)(al:List UInt8)(i:Nat):List UInt8:=(al.drop (i*s)).take s
def ER (s:Nat)(al:List UInt8)(i:Nat):List (List UInt8):=(List.range i).map (Nz s al)
def PC (s:Nat)(al:List UInt8)(i:Nat):(ER s al i).length=i:=by simp[ER]
def aea (s:Nat)(al:List UInt8)(i:Nat):ER s al (i+1)=ER s al i ++ [Nz s al i]:=by simp[ER,List.range_succ]
def ad_ {s:Nat}{al:List UInt8}{c:Nat}(h:al.length=c*s){x:List UInt8}(hx:x∈ER s al c):x.length=s:=by
 obtain⟨i,hi,rfl⟩:=gG.1 hx
 have hi:=List.mem_range.1 hi
 unfold Nz
 rw[zl3,zl4,h]
 have:(i+1)*s≤c*s:=gH s (by omega)
 rw[Nat.succ_mul] at this
 omega
def Hy (c s:Nat)(t:List UInt8):List UInt8:=t++List.replicate (c*s-t.length) 0
def WM (c s:Nat)(t:List UInt8)(h:t.length≤c*s):(Hy c s t).length=c*s:=by simp[Hy];omega
def W8 (L s c:Nat)(h3:1≤s)(h5:(L+s-1) / s=c):L≤c*s∧c*s≤L+s-1:=by
 subst h5
 have h1:=Nat.div_mul_le_self (L+s-1) s
 have h2:=Nat.lt_div_mul_add (a:=L+s-1) (b:=s) (by omega)
 omega
def wMul {a b:Nat}(ha:a≤1000)(hb:b≤1000):IntKind.wrap .i64 ((a:Int)*(b:Int))=((a*b:Nat):Int):=by
 have:a*b≤1000*1000:=Nat.mul_le_mul ha hb
 exact Fb (by simp) (by omega)
def aeb (al:List UInt8)(i s:Nat):List.take (Int.toNat ((((i+1)*s:Nat):Int)-((i*s:Nat):Int))) (List.drop (Int.toNat ((i*s:Nat):Int)) al)=Nz s al i:=by
 unfold Nz
 rw[show Int.toNat ((((i+1)*s:Nat):Int)-((i*s:Nat):Int))=s by rw[Nat.succ_mul];omega,zl94]
def ajI (L s c:Nat)(t:List UInt8)(hL:t.length=L)(h2:L≤300)(h3:1≤s)(h4:s≤13)(h5:(L+s-1) / s=c)(h7:c≤24) :
  K4 (DW L s c,t)=some (ER s (Hy c s t) c,()):=by
 have ec:=ZA L s c h2 h3 h4 h5
 have cl:=W8 L s c h3 h5
 have pz:=ZB L s c
 generalize DW L s c=P at *
 have w1:IntKind.wrap .i64 (IntKind.wrap .i64 ((c:Int)*(s:Int))-(t.length:Int))=((c*s-t.length:Nat):Int):=by
  rw[wMul (by omega) (by omega)];exact Fb (by omega) (by omega)
 have ez:=adf (c*s-t.length) (by omega)
 have al:=WM c s t (by omega)
 have b1:decide (t.length+(List.replicate (c*s-t.length) (0:UInt8)).length≤eV)=true:=by
  rw[zl67];unfold eV;exact zdt
 have ea:t++List.replicate (c*s-t.length) 0=Hy c s t:=rfl
 generalize Hy c s t=A at *
 have cm:=Bb (r:=Mw) (fun i=>(((i:Int),(),A,()),P,ER s A i)) (n:=c) (y:=((),ER s A c)) (by
  intro i hi
  have m1:=wMul (a:=i) (b:=s) (by omega) (by omega)
  have m2:=wMul (a:=i+1) (b:=s) (by omega) (by omega)
  have m3:(i+1)*s≤c*s:=gH s (by omega)
  have m4:i*s≤(i+1)*s:=gH s (by omega)
  have d1:decide (((i*s:Nat):Int)≤(((i+1)*s:Nat):Int))=true:=zdt
  have d2:decide ((((i+1)*s:Nat):Int)≤(A.length:Int))=true:=zdt
  have b2:decide (i+1≤eV)=true:=by unfold eV;exact zdt
  simp only[Mw,ec,zov ec,gl hi,pz,zw (i:=i),m1,m2,d1,d2,g0,PC,b2,AA,aeb,aea]) (by
  have:decide ((c:Int)<(c:Int))=false:=zdf
  simp only[Mw,ec,zov ec,Fo,this,zU,dW,pO]) 0 (by omega)
 have cm':Comes Mw (((0:Int),(),A,()),P,[]) _:=cm
 simp only[K4,ec,zov ec,pz,w1,ez,zov ez,b1,ea,AA,cb cm',cv cm']
def symV (s c id:Nat)(t:List UInt8):List UInt8:=Hq s (ER s (Hy c s t) c) (DO c id)
def symBls (L s c id:Nat)(t:List UInt8)(hL:t.length=L)(h3:1≤s)(h4:s≤13)(h5:(L+s-1) / s=c)(h6:1≤c)(h7:c≤24):Bls s (ER s (Hy c s t) c) (DO c id):=by
 have cl:=W8 L s c h3 h5
 have rl:=acS (id:=id) h6
 refine⟨h3,h4,fun x hx=>ad_ (WM c s t (by omega)) hx,by rw[PC];exact h6,by rw[PC];exact h7,fun x hx=>?_,ajw h6,by omega⟩
 rw[PC];exact acT h6 hx
def aj0 (L s c id:Nat)(t:List UInt8)(hL:t.length=L)(h3:1≤s)(h4:s≤13)(h5:(L+s-1) / s=c)(h6:1≤c)(h7:c≤24) :
  JA (ER s (Hy c s t) c,DO c id,(s:Int))=some (symV s c id t,()):=ajY (symBls L s c id t hL h3 h4 h5 h6 h7)
def ND (e:Int)(f:Fr):Bool:=bif f.2.1==e then f.2.2.2.1==0 else false
def Fk (e:Int)(f:Fr)(_:Int):Fr:=bif ND e f then zF else f
def F1 (_:Fr):Nat:=0
def NF (l:List Fr)(e:Int):List Fr:=Ef (Fk e) F1 l 0
def Sy (p:Po)(e:Int):Po:=(NF p.1 e,p.2)
def drop_set (l:List Fr)(e:Int)(i:Nat)(hi:i<l.length):(bif ND e l[i] then(part (Fk e) F1 0 l i).set i zF else part (Fk e) F1 0 l i)=part (Fk e) F1 0 l (i+1):=by
 have h:=ahj (Fk e) F1 0 l i hi
 have g:=Zm (Fk e) F1 0 l i zF hi
 have pl:=Zn (Fk e) F1 0 l i (by omega)
 rw[getD_eq _ _ _ (by omega)] at g
 rw[←h]
 have k:∀j,Fk e l[i] j=bif ND e l[i] then zF else l[i]:=fun _=>rfl
 rw[k]
 cases hd:ND e l[i] with
 |true=>rfl
 |false=>
  simp only[pO]
  rw[←g]
  exact(List.set_getElem_self (by omega)).symm
def ajM (p:Po)(e:Int)(h:JW p):q99 (p,e)=some (Sy p e,()):=by
 have hl:p.1.length≤1048576:=h
 have a:=Rs p h
 have q:=Bb (r:=ML) (st:=fun i=>(((i:Int),(),e,()),((),p.2),((),(0:Int),()),part (Fk e) F1 0 p.1 i,[])) (n:=p.1.length) (y:=(((),()),((),(0:Int),()),((),p.2),[],NF p.1 e)) ?_ ?_ 0 (lB _)
 ·have q':Comes ML (((0:Int),(),e,()),((),p.2),((),(0:Int),()),p.1,[]) (((),()),((),(0:Int),()),((),p.2),[],NF p.1 e):=by
   have z:=ahk (Fk e) F1 0 p.1
   rw[z] at q;exact q
  simp only[q99,a,zov a,cb q',cv q',qu,zU,dW,Sy]
 ·intro i hi
  have w:=AY (i:=i) (by omega)
  have pl:=Zn (Fk e) F1 0 p.1 i (by omega)
  have g:=Zm (Fk e) F1 0 p.1 i zF hi
  have d:=drop_set p.1 e i hi
  rw[←d]
  unfold zF at g ⊢
  simp only[ML,pl,gl hi,g0,zl94,g,w,zl99,zU,zl92,dW]
  unfold ND
  cases (bif p.1[i].2.1==e then p.1[i].2.2.2.1==0 else false)<;>rfl
 ·have d1:decide ((p.1.length:Int)<(p.1.length:Int))=false:=zdf
  simp only[ML,ahi,LZ,d1,pO]
  rfl
noncomputable def Rw (s:b7.D) (h:Int) (n:List UInt8):b7.D×Int:=
 bif !s.1 then(s,1) else match C_ s.2.2.2.1.2.1 h n with
  |none=>(s,3)
  |some i=>bif !(x4 s.2.2.1 (v5 h n [])).2 then(s,4) else
   ((s.1,s.2.1,(x4 s.2.2.1 (v5 h n [])).1,(FC s.2.2.2.1 h n).1,Sy s.2.2.2.2.1 (s.2.2.2.1.2.1.getD i z0).2.2.1,s.2.2.2.2.2),0)
noncomputable def Lj (s:b7.D) (h:Int) (n:List UInt8):b7.D×Int:=bif !AQ s then(C8,1) else Rw s h n
def Sa {l:List It}{h:Int}{n:List UInt8}{i:Nat}(e:C_ l h n=some i):i<l.length∧(l.getD i z0).1=h∧(l.getD i z0).2.1=n:=by
 obtain⟨h1,h2,_⟩:=CE.1 e
 simp only[bB,zl78] at h2
 exact⟨h1,h2.1,h2.2⟩
def akq {c:Ct}(I:BL c){h:Int}{n:List UInt8}{i:Nat}(e:C_ c.2.1 h n=some i):Dy h n []=true:=by
 obtain⟨h1,h2,h3⟩:=Sa e
 have hm:c.2.1.getD i z0∈c.2.1:=by rw[getD_eq _ _ _ h1];exact zl96 h1
 obtain⟨p1,p2,p3⟩:=Jl (I.ok _ hm)
 rw[h2] at p1
 rw[h3] at p2
 unfold Dy
 rw[zl86 p1,p2];rfl
def aj1 (s:b7.D)(S:CQ s)(h:Int)(n:List UInt8)(hn:n.length≤9999999):q34 (s,h,n)=some (Lj s h n,()):=by
 have a:=MZ s S
 unfold Lj
 cases ho:AQ s with
 |false=>
  rw[ho] at a
  simp only[q34,a,zov a,qu,zU,dW,zl98,C8]
 |true=>
 rw[ho] at a
 have I:=EY ho
 have h8:=I.len
 have hl:=F0 ho
 have b:=MY s S (by omega)
 have c1:=O2 s.2.2.2.1 h n (by omega)
 have c2:=Nu s.2.2.2.1 I
 have d:=O5 h n [] hn (by simp)
 have hrl:=Ud (h:=h) (n:=n) (t:=[])
 have e:=Um s.2.2.1 (v5 h n []) (by omega) (by omega)
 have f:=Qb s.2.2.2.1 I (v5 h n []) (by omega)
 have g:F8 (s,v5 h n [])=some (bif !(x4 s.2.2.1 (v5 h n [])).2 then(s,4) else bif !(CR s.2.2.2.1 (v5 h n [])).2 then(s,1) else((s.1,s.2.1,(x4 s.2.2.1 (v5 h n [])).1,(CR s.2.2.2.1 (v5 h n [])).1,s.2.2.2.2),0),()):=by
  simp only[F8,e,zov e,f,zov f,qu,zU,dW]
  cases (x4 s.2.2.1 (v5 h n [])).2<;>cases (CR s.2.2.2.1 (v5 h n [])).2<;>rfl
 unfold Rw
 cases dJ:C_ s.2.2.2.1.2.1 h n with
 |none=>
  rw[dJ] at c1
  have c:Ei (s.2.2.2.1,h,n)=some ((((0:Int),[],(0:Int),[],()),false),()):=by
   simp only[Ei,c1,zov c1,c2,zov c2,qu,zU,dW,zl70,pO,WY]
  simp only[q34,a,zov a,b,zov b,c,zov c,qu,zU,dW,pO,zl70,zl98]
  cases s.1<;>rfl
 |some i=>
  rw[dJ] at c1
  obtain⟨hi,_,_⟩:=Sa dJ
  have c:Ei (s.2.2.2.1,h,n)=some ((s.2.2.2.1.2.1.getD i z0,true),()):=by
   have p1:decide ((0:Int)≤(i:Int))=true:=zdt
   have p2:decide ((i:Int)<(s.2.2.2.1.2.1.length:Int))=true:=zdt
   have p3:decide ((i:Int)<0)=false:=zdf
   simp only[Ei,c1,zov c1,c2,zov c2,qu,zU,dW,zl70,pO,Cs,p1,p2,p3,zl94,zl92,z0]
  have k1:=akq I dJ
  have k3:=Pw (c:=s.2.2.2.1) (TH (acK k1))
  have k4:(FC s.2.2.2.1 h n).2=0:=by unfold FC;rw[dJ]
  rw[bQ rfl,k4] at k3
  rw[k3] at g
  have dr:=ajM s.2.2.2.2.1 (s.2.2.2.1.2.1.getD i z0).2.2.1 S.GY
  simp only[q34,a,zov a,b,zov b,c,zov c,d,zov d,g,zov g,qu,zU,zl92,dW,pO,zl70,zl95]
  cases s.1 with
  |false=>rfl
  |true=>
  cases (x4 s.2.2.1 (v5 h n [])).2 with
  |false=>rfl
  |true=>
   simp only[zl70,pO,dr,zov dr,dW]
   rfl
def akp (s:b7.D)(S:CQ s)(h:Int)(n:List UInt8):CQ (Lj s h n).1:=by
 unfold Lj
 cases ho:AQ s with
 |false=>exact Hv
 |true=>
 unfold Rw
 cases s.1 with
 |false=>exact S
 |true=>
 cases C_ s.2.2.2.1.2.1 h n with
 |none=>exact S
 |some i=>
 cases ha:(x4 s.2.2.1 (v5 h n [])).2 with
 |false=>exact S
 |true=>
  have k:=acZ S (u:=true) (JX _ _ ha) (Ux _ (EY ho) h n)
  refine⟨k.log,k.cat,k.items,?_,k.bks,k.Ay⟩
  change (NF s.2.2.2.2.1.1 _).length≤_
  unfold NF
  rw[LZ]
  exact S.GY
def skipB (own:Bool)(h:Int)(f:Fr):Bool:=bif own then bif f.2.1==(0:Int) then true else f.1 != h else false
def RP (own:Bool)(h:Int)(f:Fr):Bool:= !(skipB own h f)&&(!(decide (f.2.2.2.1>(0:Int))) && !f.2.2.2.2.1)
def unuse (f:Fr):Fr:=(f.1,f.2.1,f.2.2.1,f.2.2.2.1,false,f.2.2.2.2.2)
def Pf (own:Bool)(h:Int)(l:List Fr)(k:Nat):List Fr:=
 bif skipB own h (l.getD k zF) then l else bif decide ((l.getD k zF).2.2.2.1>(0:Int)) then l else bif(l.getD k zF).2.2.2.2.1 then l.set k (unuse (l.getD k zF)) else l
def dJ (hd n:Nat):Nat:=(hd+n) % 8
def BD (own:Bool)(h:Int)(hd:Nat)(l:List Fr):Nat→List Fr
 |0=>l
 |n+1=>Pf own h (BD own h hd l n) (dJ hd n)
def akE (own:Bool)(h:Int)(l:List Fr)(k:Nat):(Pf own h l k).length=l.length:=by
 unfold Pf;cases skipB own h (l.getD k zF)<;>cases decide ((l.getD k zF).2.2.2.1>(0:Int))<;>cases (l.getD k zF).2.2.2.2.1<;>simp
def RO (own:Bool)(h:Int)(hd:Nat)(l:List Fr):∀n,(BD own h hd l n).length=l.length
 |0=>rfl
 |n+1=>by rw[BD,akE,RO own h hd l n]
def Pe (own:Bool)(h:Int)(hd:Nat)(l:List Fr)(n:Nat):Bool:=RP own h ((BD own h hd l n).getD (dJ hd n) zF)
def Nc (own:Bool)(h:Int)(hd:Nat)(l:List Fr):Option Nat:=first 17 (Pe own h hd l)
def afg {hd:Nat}(h:hd<8):dJ hd 0=hd:=by unfold dJ;omega
def J4 (hd n:Nat):dJ hd n<8:=by unfold dJ;omega
def X8 (hd n:Nat):Int.tmod (IntKind.wrap .i64 ((dJ hd n:Nat)+1:Int)) 8=((dJ hd (n+1):Nat):Int):=by
 rw[AY (by have:=J4 hd n;omega)]
 refine(O9 (dJ hd n+1) 8).trans ?_
 unfold dJ;omega
def aj4 (own:Bool)(h:Int)(hd:Nat)(l:List Fr)(hh:hd<8)(hl:l.length=8) :
  Comes K9 (((0:Int),(),(),h,own),((),(hd:Int),()),((),(0:Int),()),l,[])
   (match Nc own h hd l with
    |some n=>.inl (((),(dJ hd n:Int)),((),(dJ hd (n+1):Int),()),BD own h hd l n)
    |none=>.inr (((),()),((),(0:Int),()),((),(dJ hd 17:Int),()),[],BD own h hd l 17)):=by
 have c:=En (r:=K9) (fun n=>(((n:Int),(),(),h,own),((),(dJ hd n:Int),()),((),(0:Int),()),BD own h hd l n,[])) (n:=17) (p:=Pe own h hd l)
  (yt:=fun n=>.inl (((),(dJ hd n:Int)),((),(dJ hd (n+1):Int),()),BD own h hd l n)) (yn:=.inr (((),()),((),(0:Int),()),((),(dJ hd 17:Int),()),[],BD own h hd l 17)) (by
   intro n hn hp
   have ll:=RO own h hd l n
   have ha:=J4 hd n
   have g1:dJ hd n<(BD own h hd l n).length:=by omega
   have g2:decide ((n:Int)<17)=true:=zdt
   simp only[Pe] at hp
   simp only[BD]
   generalize BD own h hd l n=L at *
   unfold RP skipB at hp
   unfold Pf skipB unuse
   unfold zF at hp ⊢
   simp only[K9,g2,zl94,gl g1,g0,zU,zl92,dW,X8,zw (i:=n)]
   cases h1:(bif own then bif(List.getD L (dJ hd n) ((0:Int),(0:Int),(0:Int),(0:Int),false,())).2.1==(0:Int) then true else(List.getD L (dJ hd n) ((0:Int),(0:Int),(0:Int),(0:Int),false,())).1 != h else false)
   ·cases h2:decide ((List.getD L (dJ hd n) ((0:Int),(0:Int),(0:Int),(0:Int),false,())).2.2.2.1>(0:Int))
    ·cases h3:(List.getD L (dJ hd n) ((0:Int),(0:Int),(0:Int),(0:Int),false,())).2.2.2.2.1
     ·rw[h1,h2,h3] at hp;cases hp
     ·simp only[dW,pO]
    ·simp only[dW,pO]
   ·simp only[dW]) (by
   intro n hn hp
   have ll:=RO own h hd l n
   have ha:=J4 hd n
   have g1:dJ hd n<(BD own h hd l n).length:=by omega
   have g2:decide ((n:Int)<17)=true:=zdt
   simp only[Pe] at hp
   generalize BD own h hd l n=L at *
   unfold RP skipB at hp
   unfold zF at hp
   simp only[K9,g2,zl94,gl g1,g0,zU,zl92,dW,X8]
   cases h1:(bif own then bif(List.getD L (dJ hd n) ((0:Int),(0:Int),(0:Int),(0:Int),false,())).2.1==(0:Int) then true else(List.getD L (dJ hd n) ((0:Int),(0:Int),(0:Int),(0:Int),false,())).1 != h else false)
   ·cases h2:decide ((List.getD L (dJ hd n) ((0:Int),(0:Int),(0:Int),(0:Int),false,())).2.2.2.1>(0:Int))
    ·cases h3:(List.getD L (dJ hd n) ((0:Int),(0:Int),(0:Int),(0:Int),false,())).2.2.2.2.1
     ·simp only[pO]
     ·rw[h1,h2,h3] at hp;cases hp
    ·rw[h1,h2] at hp;cases hp
   ·rw[h1] at hp;cases hp) (by
   have g2:decide (((17:Nat):Int)<17)=false:=by decide
   simp only[K9,g2,pO])
 rw[afg hh] at c
 exact c
def NQ (l:List Fr)(e b:Int):Option Nat:=first l.length (fun i=>bif(l.getD i zF).2.1==e then(l.getD i zF).2.2.1==b else false)
def ajO (p:Po)(ed bl:Int)(hl:p.1.length≤9999999):L7 (p,ed,bl)=some (Cs (NQ p.1 ed bl),()):=by
 obtain⟨l,nx,u⟩:=p
 have hl:l.length≤9999999:=hl
 have q:=En (r:=Kw) (fun i=>(((i:Int),bl,(),ed),(l,nx,u))) (n:=l.length) (p:=fun i=>bif(l.getD i zF).2.1==ed then(l.getD i zF).2.2.1==bl else false) (yt:=fun i=>.inl ((i:Int),())) (yn:=.inr ((),())) (fun i hi hp=>by
   have hp':(bif(l.getD i zF).2.1==ed then(l.getD i zF).2.2.1==bl else false)=false:=hp
   unfold zF at hp'
   simp only[Kw,gl hi,g0,zl94,hp',zl99,zU,zl92,dW,pO,zw (i:=i)]) (fun i hi hp=>by
   have hp':(bif(l.getD i zF).2.1==ed then(l.getD i zF).2.2.1==bl else false)=true:=hp
   unfold zF at hp'
   simp only[Kw,gl hi,g0,zl94,hp',zl99,zU,zl92,dW]) (by
   have d1:decide ((l.length:Int)<(l.length:Int))=false:=zdf
   simp only[Kw,d1,pO])
 have q':Comes Kw ((0,bl,(),ed),(l,nx,u)) _:=q
 simp only[L7,cb q',cv q',dW,NQ,ia]
 cases first l.length (fun i=>bif(l.getD i zF).2.1==ed then(l.getD i zF).2.2.1==bl else false)<;>rfl
def M3 (f:Fr):Fr:=(f.1,f.2.1,f.2.2.1,f.2.2.2.1+1,true,f.2.2.2.2.2)
def NR (l:List Fr)(hd:Nat)(h e b:Int):(List Fr×Int×Unit)×Int×Int:=
 match NQ l e b with
 |some k=>bif(bif decide ((l.getD k zF).2.2.2.1≥99999) then true else(l.getD k zF).1 != h) then((l,(hd:Int),()),0,3) else((l.set k (M3 (l.getD k zF)),(hd:Int),()),(k:Int),0)
 |none=>match Nc (decide (nG l h 8≥5)) h hd l with
  |some n=>(((BD (decide (nG l h 8≥5)) h hd l n).set (dJ hd n) (h,e,b,1,true,()),(dJ hd (n+1):Int),()),(dJ hd n:Int),1)
  |none=>((l,(hd:Int),()),0,2)
def take_set (l:List Fr)(k:Nat)(hk:k<l.length)(hw:(l.getD k zF).2.2.2.1≤99999)(hw0:0≤(l.getD k zF).2.2.2.1)(x:Fr)(hx:x=(Prod.fst (List.getD l k zF),Prod.fst (Prod.snd (List.getD l k zF)),Prod.fst (Prod.snd (Prod.snd (List.getD l k zF))),IntKind.wrap .i64 (Prod.fst (Prod.snd (Prod.snd (Prod.snd (List.getD l k zF))))+(1:Int)),Prod.snd (Prod.snd (Prod.snd (Prod.snd (List.getD l k zF)))))) :
  (l.set k x).set k (Prod.fst (List.getD (l.set k x) k zF),Prod.fst (Prod.snd (List.getD (l.set k x) k zF)),Prod.fst (Prod.snd (Prod.snd (List.getD (l.set k x) k zF))),Prod.fst (Prod.snd (Prod.snd (Prod.snd (List.getD (l.set k x) k zF)))),true,Prod.snd (Prod.snd (Prod.snd (Prod.snd (Prod.snd (List.getD (l.set k x) k zF))))))=l.set k (M3 (l.getD k zF)):=by
 rw[afd _ _ _ _ hk,ajC,hx,M3]
 rw[wrap64 (by omega) (by omega)]
def ajP (l:List Fr)(hd:Nat)(h e b:Int)(hh:hd<8)(hl:l.length=8)(hw:∀k,k<8→0≤(l.getD k zF).2.2.2.1∧(l.getD k zF).2.2.2.1≤99999):H7 ((l,(hd:Int),()),h,e,b)=some (NR l hd h e b,()):=by
 have c:=Rs (l,(hd:Int),()) (by unfold JW;simp;omega)
 have f:=ajO (l,(hd:Int),()) e b (by simp;omega)
 have o:=ac7 (l,(hd:Int),()) h (by simp;omega)
 have vc:=aj4 (decide (nG l h 8≥5)) h hd l hh hl
 simp only[hl] at o
 have eo:decide ((nG l h 8:Int)≥5)=decide (nG l h 8≥5):=by
  by_cases g:nG l h 8≥5
  ·rw[zl86 g,zdt]
  ·rw[zl90 g,zdf]
 unfold NR
 simp only at f
 cases hf:NQ l e b with
 |some k=>
  rw[hf] at f
  have hk:k<l.length:=(CE.1 hf).1
  have hkw:=hw k (by omega)
  have d:decide ((k:Int)≥0)=true:=zdt
  have ts:=take_set l k hk hkw.2 hkw.1 _ rfl
  have hks:∀x:Fr,k<(l.set k x).length:=fun x=>by rw[zl66];exact hk
  unfold zF at ts ⊢
  simp only[H7,c,zov c,f,zov f,Cs,d,zl94,gl hk,zl99,AA]
  cases (bif decide ((List.getD l k ((0:Int),(0:Int),(0:Int),(0:Int),false,())).2.2.2.1≥99999) then true else(List.getD l k ((0:Int),(0:Int),(0:Int),(0:Int),false,())).1 != h) with
  |true=>rfl
  |false=>
   simp only[pO,gl (hks _),zl92,dW]
   rw[ts]
 |none=>
  rw[hf] at f
  have d:decide ((-1:Int)≥0)=false:=by decide
  have ev:q50 ((l,(hd:Int),()),h)=some (match Nc (decide (nG l h 8≥5)) h hd l with
    |some n=>((BD (decide (nG l h 8≥5)) h hd l n,(dJ hd (n+1):Int),()),(dJ hd n:Int))
    |none=>((BD (decide (nG l h 8≥5)) h hd l 17,(dJ hd 17:Int),()),(-1:Int)),()):=by
   simp only[q50,o,zov o,Fo,zU,dW,eo,cb vc,cv vc]
   cases Nc (decide (nG l h 8≥5)) h hd l<;>rfl
  cases hv:Nc (decide (nG l h 8≥5)) h hd l with
  |some n=>
   rw[hv] at ev
   have dn:decide ((dJ hd n:Int)<0)=false:=zdf
   have hn:dJ hd n<(BD (decide (nG l h 8≥5)) h hd l n).length:=by rw[RO];have:=J4 hd n;omega
   simp only[H7,c,zov c,f,zov f,Cs,d,ev,zov ev,dn,zl94,gl hn,g0,AA,pO]
  |none=>
   rw[hv] at ev
   have dn:decide ((-1:Int)<0)=true:=by decide
   simp only[H7,c,zov c,f,zov f,Cs,d,ev,zov ev,dn,Fo,zU,dW,pO]
structure Ca (l:List Fr) (hd:Nat):Prop where
 len:l.length=8
 hd:hd<8
 ok:∀i,i<8→okF (l.getD i zF)=true
 tw:∀i,i<8→∀k,k<i→D4 l i k=false
 c0:nG l 0 8≤5
 c1:nG l 1 8≤5
def ahr {p:Po}(h:Jk p=true):∃hd:Nat,p=(p.1,(hd:Int),())∧Ca p.1 hd:=by
 obtain⟨l,n,u⟩:=p
 unfold Jk at h
 simp only[bB,zl78,mS] at h
 obtain⟨⟨h1,h2⟩,h3,h4,h5⟩:=h
 have h2:=zl79 h2
 have hr:=wv.1 h3
 refine⟨n.toNat,by rw[show((n.toNat:Nat):Int)=n by omega],h1,by omega,fun i hi=>?_,fun i hi k hk=>?_,h4,h5⟩
 ·have:=hr i hi;unfold IA at this;rw[bB] at this;exact this.1
 ·have:=hr i hi;unfold IA at this;rw[bB] at this
  have:=wv.1 this.2 k hk
  simpa using this
def Ca.v {l:List Fr}{hd:Nat}(G:Ca l hd):Jk (l,(hd:Int),())=true:=by
 have h:=G.hd
 have e:nc (hd:Int) 0 7=true:=zdt
 have r:ld 8 (IA l)=true:=wv.2 fun i hi=>by
  unfold IA
  rw[G.ok i hi,zl108]
  exact wv.2 fun k hk=>by rw[G.tw i hi k hk];rfl
 unfold Jk
 simp only[G.len,zl95,e,r,zl86 G.c0,zl86 G.c1,zl92]
def Ca.at {l:List Fr}{hd:Nat}(G:Ca l hd){hd':Nat}(h:hd'<8):Ca l hd':=⟨G.len,h,G.ok,G.tw,G.c0,G.c1⟩
def Ca.held {l:List Fr}{hd:Nat}(G:Ca l hd)(k:Nat)(hk:k<8):0≤(l.getD k zF).2.2.2.1∧(l.getD k zF).2.2.2.1≤99999:=by
 have o:=G.ok k hk
 unfold okF at o
 cases e:((l.getD k zF).2.1==0) with
 |true=>
  rw[e,dW] at o
  simp only[bB,zl78] at o
  omega
 |false=>
  rw[e,pO] at o
  simp only[bB] at o
  have:=zl79 o.2
  omega
def Fl (l:List Fr)(k i:Nat)(f:Fr)(hk:k<l.length):(l.set k f).getD i zF=if i=k then f else l.getD i zF:=by
 rw[zl26,List.getElem?_set]
 by_cases h:k=i
 ·subst h;simp[hk]
 ·rw[cT h,cT (Ne.symm h),←zl26]
def DF (h:Int)(f:Fr):Nat:=if(bif decide (f.2.1>0) then f.1==h else false)=true then 1 else 0
def L3 (l:List Fr)(h:Int)(i:Nat):nG l h (i+1)=nG l h i+DF h (l.getD i zF):=rfl
def Zf (l:List Fr)(h:Int)(v:Nat)(f:Fr)(hv:v<l.length):∀i,i≤v→nG (l.set v f) h i=nG l h i
 |0,_=>rfl
 |i+1,hi=>by rw[L3,L3,Zf l h v f hv i (by omega),Fl _ _ _ _ hv,cT (by omega)]
def Oo (l:List Fr)(h:Int)(v:Nat)(f:Fr)(hv:v<l.length):∀i,v<i→nG (l.set v f) h i+DF h (l.getD v zF)=nG l h i+DF h f
 |0,hi=>by omega
 |i+1,hi=>by
  rw[L3,L3,Fl _ _ _ _ hv]
  by_cases e:i=v
  ·subst e;rw[bQ rfl,Zf l h i f hv i (bA _)];omega
  ·rw[cT e]
   have:=Oo l h v f hv i (by omega)
   omega
def SK (f g:Fr):Prop:=f.1=g.1∧f.2.1=g.2.1∧f.2.2.1=g.2.2.1
def S5 {h:Int}{f g:Fr}(s:SK f g):DF h f=DF h g:=by unfold DF;rw[s.1,s.2.1]
def akz {l m:List Fr}{i k:Nat}(a:SK (l.getD i zF) (m.getD i zF))(b:SK (l.getD k zF) (m.getD k zF)):D4 l i k=D4 m i k:=by
 unfold D4;rw[a.2.1,a.2.2,b.2.1,b.2.2]
def Ca.same {l:List Fr}{hd:Nat}(G:Ca l hd){k:Nat}(hk:k<8){f:Fr}(ho:okF f=true)(s:SK f (l.getD k zF)):Ca (l.set k f) hd:=by
 have hk':k<l.length:=by rw[G.len];exact hk
 have sk:∀i,SK ((l.set k f).getD i zF) (l.getD i zF):=fun i=>by
  rw[Fl _ _ _ _ hk']
  by_cases e:i=k
  ·subst e;rw[bQ rfl];exact s
  ·rw[cT e];exact⟨rfl,rfl,rfl⟩
 refine⟨by rw[zl66];exact G.len,G.hd,fun i hi=>?_,fun i hi j hj=>?_,?_,?_⟩
 ·rw[Fl _ _ _ _ hk']
  by_cases e:i=k
  ·rw[bQ e];exact ho
  ·rw[cT e];exact G.ok i hi
 ·rw[akz (sk i) (sk j)];exact G.tw i hi j hj
 ·have:=Oo l 0 k f hk' 8 hk;rw[S5 s] at this;have:=G.c0;omega
 ·have:=Oo l 1 k f hk' 8 hk;rw[S5 s] at this;have:=G.c1;omega
def ag4 {f:Fr}(h:okF f=true):okF (unuse f)=true:=by
 unfold okF at h ⊢
 unfold unuse
 cases e:(f.2.1==0) with
 |true=>
  rw[e] at h
  simp only[dW] at h ⊢
  simp only[bB,zl78] at h ⊢
  exact⟨h.1,h.2.1,h.2.2.1,h.2.2.2.1,by simp⟩
 |false=>
  rw[e] at h
  simp only[pO] at h ⊢
  exact h
def IK (l:List Fr):Prop:=∀i,i<8→(l.getD i zF).2.2.2.1=0
structure VicI (l L:List Fr) (hd:Nat):Prop where
 g:Ca L hd
 f:IK L
 sk:∀i,i<8→SK (L.getD i zF) (l.getD i zF)
def adu {l:List Fr}{hd:Nat}(G:Ca l hd)(F:IK l)(own:Bool)(h:Int):∀n,VicI l (BD own h hd l n) hd
 |0=>⟨G,F,fun _ _=>⟨rfl,rfl,rfl⟩⟩
 |n+1=>by
  have V:=adu G F own h n
  rw[BD]
  generalize BD own h hd l n=L at *
  have ha:=J4 hd n
  generalize dJ hd n=a at *
  have set_:VicI l (L.set a (unuse (L.getD a zF))) hd:=by
   have hl:a<L.length:=by rw[V.g.len];exact ha
   refine⟨V.g.same ha (ag4 (V.g.ok a ha)) ⟨rfl,rfl,rfl⟩,fun i hi=>?_,fun i hi=>?_⟩
   ·rw[Fl _ _ _ _ hl]
    by_cases e:i=a
    ·rw[bQ e];exact V.f a ha
    ·rw[cT e];exact V.f i hi
   ·rw[Fl _ _ _ _ hl]
    by_cases e:i=a
    ·subst e;rw[bQ rfl];exact V.sk i hi
    ·rw[cT e];exact V.sk i hi
  unfold Pf
  cases skipB own h (L.getD a zF)
  ·cases decide ((L.getD a zF).2.2.2.1>(0:Int))
   ·cases (L.getD a zF).2.2.2.2.1
    ·exact V
    ·exact set_
   ·exact V
  ·exact V
def Ca.miss {L:List Fr}{hd:Nat}(G:Ca L hd){h e b:Int}(h1:nc h 0 1=true)(h2:nc e 1 99999=true)(h3:nc b 0 23=true)
  (nf:∀i,i<8→¬((L.getD i zF).2.1=e∧(L.getD i zF).2.2.1=b)) {v:Nat} (hv:v<8) (ho:nG L h 8≥5→DF h (L.getD v zF)=1):Ca (L.set v (h,e,b,1,true,())) hd:=by
 have fJ:v<L.length:=by rw[G.len];exact hv
 have he:=zl79 h2
 have hh:=zl79 h1
 have key:∀i,(L.set v (h,e,b,1,true,())).getD i zF=if i=v then(h,e,b,1,true,()) else L.getD i zF:=fun i=>Fl _ _ _ _ fJ
 refine⟨by rw[zl66];exact G.len,G.hd,fun i hi=>?_,fun i hi j hj=>?_,?_,?_⟩
 ·rw[key]
  by_cases q:i=v
  ·rw[bQ q]
   unfold okF
   have:(e==0)=false:=zl89.2 (by omega)
   simp only[this,pO,h1,h2,h3,zl92,zl108]
   decide
  ·rw[cT q];exact G.ok i hi
 ·unfold D4
  rw[key,key]
  by_cases q:i=v
  ·have qj:¬j=v:=by omega
   rw[bQ q,cT qj]
   have:=nf j (by omega)
   simp only[zdt (p:=e>0),dW]
   by_cases q1:e=(L.getD j zF).2.1
   ·rw[zl78.2 q1,dW,zl89]
    intro q2;exact this ⟨q1.symm,q2.symm⟩
   ·rw[zl89.2 q1];rfl
  ·rw[cT q]
   by_cases qj:j=v
   ·rw[bQ qj]
    have:=nf i hi
    by_cases q1:(L.getD i zF).2.1=e
    ·have q2:¬(L.getD i zF).2.2.1=b:=fun q2=>this ⟨q1,q2⟩
     simp only[zl89.2 q2]
     cases (bif decide ((L.getD i zF).2.1>0) then(L.getD i zF).2.1==e else false)<;>rfl
    ·simp only[zl89.2 q1]
     cases decide ((L.getD i zF).2.1>0)<;>rfl
   ·rw[cT qj];exact G.tw i hi j hj
 ·have s:=Oo L 0 v (h,e,b,1,true,()) fJ 8 hv
  have c:=G.c0
  by_cases q:h=0
  ·subst q
   have i1:DF 0 ((0,e,b,1,true,()):Fr)≤1:=by unfold DF;split<;>omega
   by_cases g:nG L 0 8≥5
   ·rw[ho g] at s;omega
   ·omega
  ·have i1:DF 0 ((h,e,b,1,true,()):Fr)=0:=by
    unfold DF;rw[cT];simp only[zl89.2 q];cases decide (e>0)<;>simp
   omega
 ·have s:=Oo L 1 v (h,e,b,1,true,()) fJ 8 hv
  have c:=G.c1
  by_cases q:h=1
  ·subst q
   have i1:DF 1 ((1,e,b,1,true,()):Fr)≤1:=by unfold DF;split<;>omega
   by_cases g:nG L 1 8≥5
   ·rw[ho g] at s;omega
   ·omega
  ·have i1:DF 1 ((h,e,b,1,true,()):Fr)=0:=by
    unfold DF;rw[cT];simp only[zl89.2 q];cases decide (e>0)<;>simp
   omega
def MV (f:Fr):Fr:=(f.1,f.2.1,f.2.2.1,f.2.2.2.1-1,f.2.2.2.2)
def ajS {l:List Fr}{hd:Nat}(G:Ca l hd)(k:Nat)(hk:k<8)(hh:(l.getD k zF).2.2.2.1=1):q97 ((l,(hd:Int),()),(k:Int))=some (((l.set k (MV (l.getD k zF)),(hd:Int),()),true),()):=by
 have c:=Rs (l,(hd:Int),()) (by unfold JW;have:=G.len;simp only;omega)
 have o:=ac8 (l,(hd:Int),()) (by have:=G.len;simp only;omega)
 rw[G.v] at o
 have i:=B5 (k:Int) 0 7
 rw[show nc (k:Int) 0 7=true from zdt] at i
 have hk':k<l.length:=by rw[G.len];exact hk
 have z:((1:Int)==0)=false:=rfl
 have w:IntKind.wrap .i64 ((1:Int)-1)=1-1:=by decide
 unfold MV
 rw[hh]
 unfold zF at hh ⊢
 simp only[q97,o,zov o,c,zov c,i,zov i,hh,z,w,zl94,gl hk',g0,zl70,zl98,zl99,AA,pO]
def ag3 {f:Fr}(h:okF f=true)(h0:f.2.2.2.1=0)(he:f.2.1≠0):okF (M3 f)=true:=by
 unfold okF at h ⊢
 unfold M3
 have e:(f.2.1==0)=false:=zl89.2 he
 rw[e] at h
 simp only[pO,e,bB] at h ⊢
 refine⟨h.1,?_⟩
 rw[h0];decide
def ag2 {f:Fr}(h:okF f=true)(h0:f.2.2.2.1=1):okF (MV f)=true:=by
 unfold okF at h ⊢
 unfold MV
 cases e:(f.2.1==0) with
 |true=>
  rw[e] at h
  simp only[dW,bB,zl78] at h
  omega
 |false=>
  rw[e] at h
  simp only[pO,bB] at h ⊢
  refine⟨h.1,?_⟩
  rw[h0];decide
def afc {l:List Fr}(k:Nat)(hk:k<l.length)(f:Fr)(h0:f.2.2.2.1=0)(o:∀i,i<8→i≠k→(l.getD i zF).2.2.2.1=0):IK (l.set k f):=fun i hi=>by
 rw[Fl _ _ _ _ hk]
 by_cases e:i=k
 ·rw[bQ e];exact h0
 ·rw[cT e];exact o i hi e
structure Got (l l':List Fr) (hd' k:Nat):Prop where
 g:Ca l' hd'
 lt:k<8
 one:(l'.getD k zF).2.2.2.1=1
 g':Ca (l'.set k (MV (l'.getD k zF))) hd'
 f':IK (l'.set k (MV (l'.getD k zF)))
def X6 {l l':List Fr}{hd' k:Nat}(g:Ca l' hd')(hk:k<8)(h:(l'.getD k zF).2.2.2.1=1)(o:∀i,i<8→i≠k→(l'.getD i zF).2.2.2.1=0):Got l l' hd' k:=by
 have hk':k<l'.length:=by rw[g.len];exact hk
 refine⟨g,hk,h,g.same hk (ag2 (g.ok k hk) h) ⟨rfl,rfl,rfl⟩,afc k hk' _ ?_ o⟩
 show(l'.getD k zF).2.2.2.1-1=0
 rw[h]
 rfl
def Zg {l m:List Fr}{h:Int}(s:∀i,i<8→SK (l.getD i zF) (m.getD i zF)):∀i,i≤8→nG l h i=nG m h i
 |0,_=>rfl
 |i+1,hi=>by rw[L3,L3,Zg s i (by omega),S5 (s i (by omega))]
def got_ok {l:List Fr}{hd:Nat}(G:Ca l hd)(F:IK l){h e b:Int}(h1:nc h 0 1=true)(h2:nc e 1 99999=true)(h3:nc b 0 23=true) :
  (∃l' hd' k c,NR l hd h e b=((l',((hd':Nat):Int),()),((k:Nat):Int),c)∧(c=0∨c=1)∧Got l l' hd' k)∨(∃f c,NR l hd h e b=((l,(hd:Int),()),f,c)∧(c=2∨c=3)):=by
 have he:=zl79 h2
 unfold NR
 cases hf:NQ l e b with
 |some k=>
  obtain⟨k1,k2,k3⟩:=CE.1 hf
  have k8:k<8:=by rw[G.len] at k1;exact k1
  have ke:(l.getD k zF).2.1=e:=by
   cases q:((l.getD k zF).2.1==e) with
   |true=>exact eq_of_beq q
   |false=>rw[q] at k2;cases k2
  simp only
  cases (bif decide ((l.getD k zF).2.2.2.1≥99999) then true else(l.getD k zF).1 != h) with
  |true=>exact .inr ⟨0,3,rfl,.inr rfl⟩
  |false=>
   refine .inl ⟨l.set k (M3 (l.getD k zF)),hd,k,0,rfl,.inl rfl,X6 (G.same k8 (ag3 (G.ok k k8) (F k k8) (by omega)) ⟨rfl,rfl,rfl⟩) k8 ?_ fun i hi hne=>?_⟩
   ·rw[Fl _ _ _ _ k1,bQ rfl]
    show(l.getD k zF).2.2.2.1+1=1
    rw[F k k8];rfl
   ·rw[Fl _ _ _ _ k1,cT hne];exact F i hi
 |none=>
  simp only
  cases hv:Nc (decide (nG l h 8≥5)) h hd l with
  |none=>exact .inr ⟨0,2,rfl,.inl rfl⟩
  |some n=>
   obtain⟨n1,n2,n3⟩:=CE.1 hv
   have V:=adu G F (decide (nG l h 8≥5)) h n
   have nf:∀i,i<8→¬(((BD (decide (nG l h 8≥5)) h hd l n).getD i zF).2.1=e∧((BD (decide (nG l h 8≥5)) h hd l n).getD i zF).2.2.1=b):=by
    rintro i hi ⟨q1,q2⟩
    have:=NL.1 hf i (by rw[G.len];exact hi)
    have s:=V.sk i hi
    rw[←s.2.1,←s.2.2,q1,q2] at this
    simp at this
   have ofe:nG (BD (decide (nG l h 8≥5)) h hd l n) h 8=nG l h 8:=Zg V.sk 8 (bA _)
   have ha:=J4 hd n
   unfold Pe at n2
   have ho:nG (BD (decide (nG l h 8≥5)) h hd l n) h 8≥5→DF h ((BD (decide (nG l h 8≥5)) h hd l n).getD (dJ hd n) zF)=1:=by
    intro g5
    rw[ofe] at g5
    rw[zl86 g5] at n2 ⊢
    have ok:=V.g.ok (dJ hd n) ha
    rw[zl86 g5] at ok
    generalize (BD true h hd l n).getD (dJ hd n) zF=f at *
    unfold RP skipB at n2
    simp only[dW] at n2
    cases q:(f.2.1==0) with
    |true=>rw[q] at n2;cases n2
    |false=>
     cases q2:(f.1 != h) with
     |true=>rw[q,q2] at n2;cases n2
     |false=>
      unfold okF at ok
      rw[q,pO] at ok
      simp only[bB] at ok
      have:=zl79 ok.1.1.2
      unfold DF
      rw[bQ]
      rw[zdt (p:=f.2.1>0),dW]
      simpa using q2
   have hl:dJ hd n<(BD (decide (nG l h 8≥5)) h hd l n).length:=by rw[V.g.len];exact ha
   refine .inl ⟨_,dJ hd (n+1),dJ hd n,1,rfl,.inr rfl,X6 ((V.g.miss h1 h2 h3 nf ha ho).at (J4 _ _)) ha ?_ fun i hi hne=>?_⟩
   ·rw[Fl _ _ _ _ hl,bQ rfl]
   ·rw[Fl _ _ _ _ hl,cT hne];exact V.f i hi
section
variable (up:Bool) (now:Int) (log:List UInt8) (cl:Int) (row:List Int) (t:an.D) (P1 P2:Int) (v:cg.D) (fT:List an.D) (bks:List cw.D) (Ay:List cg.D) (W ws:List Int) (k:Int)
variable (up0:Bool) (now0:Int) (log0:List UInt8) (cl0 hd0:Int) (w:eL.D) (its0:List an.D) (fr0:List Fr) (bks0:List cw.D) (AW:List cg.D)
end
abbrev Jb:Type:=Int×Int×Int×Unit
def zJ:Jb:=((0:Int),(0:Int),(0:Int),())
def jv (j:Jb):Int:=j.2.1-j.2.2.1
def CD (v:Nat→Int):Nat→Option Nat
 |0=>none
 |i+1=>match CD v i with
  |none=>some i
  |some b=>bif decide (v i>v b) then some i else some b
def LA {v:Nat→Int}:∀{n b:Nat},CD v n=some b→b<n
 |0,b,h=>by cases h
 |n+1,b,h=>by
  rw[CD] at h
  cases e:CD v n with
  |none=>rw[e] at h;cases h;omega
  |some c=>
   have:=LA e
   rw[e] at h
   dsimp only at h
   cases q:decide (v n>v c) with
   |true=>rw[q] at h;cases h;omega
   |false=>rw[q] at h;cases h;omega
def WZ {v w:Nat→Int}:∀{n:Nat},(∀i,i<n→v i=w i)→CD v n=CD w n
 |0,_=>rfl
 |n+1,h=>by
  rw[CD,CD,WZ fun i hi=>h i (by omega)]
  cases e:CD w n with
  |none=>rfl
  |some b=>dsimp only;rw[h n (by omega),h b (by have:=LA e;omega)]
structure JobsI (J:List Jb) (now:Int):Prop where
 len:J.length≤100000
 nw:now≤99999
 ok:∀i,i<J.length→(0≤(J.getD i zJ).2.1∧(J.getD i zJ).2.1≤3)∧0≤(J.getD i zJ).2.2.1∧(J.getD i zJ).2.2.1≤now
def wJ {w s now:Int}(h1:0≤w∧w≤3)(h2:0≤s∧s≤now)(h3:now≤99999):IntKind.wrap .i64 (IntKind.wrap .i64 (w+now)-s)=w+now-s:=by
 rw[wrap64 (n:=w+now) (by omega) (by omega),wrap64 (by omega) (by omega)]
def ac6 {J:List Jb}{now:Int}(I:JobsI J now):q95 (J,now)=some (Cs (CD (fun k=>jv (J.getD k zJ)) J.length),()):=by
 have hl:=I.len
 have c:=Bb (r:=Ld) (fun i=>(((i:Int),Cs (CD (fun k=>jv (J.getD k zJ)) i),J,now),())) (n:=J.length) (y:=.inr (Cs (CD (fun k=>jv (J.getD k zJ)) J.length),())) (fun i hi=>by
  have o:=I.ok i hi
  have hn:=I.nw
  have wi:=zw (i:=i)
  have i1:=B5 (J.getD i zJ).2.1 0 99999
  have i2:=B5 (J.getD i zJ).2.2.1 0 now
  rw[show nc (J.getD i zJ).2.1 0 99999=true from zdt] at i1
  rw[show nc (J.getD i zJ).2.2.1 0 now=true from zdt] at i2
  have dn:decide (now>99999)=false:=zdf
  have w1:=wJ o.1 o.2 hn
  rw[CD]
  cases e:CD (fun k=>jv (J.getD k zJ)) i with
  |none=>
   have d:decide ((-1:Int)<0)=true:=by decide
   dsimp only[Cs]
   unfold zJ at i1 i2
   simp only[Ld,gl hi,g0,zl94,i1,zov i1,i2,zov i2,dn,d,zl70,zl98,zl99,zl76,AA,pO,wi]
  |some b=>
   have hb:=LA e
   have hb':b<J.length:=by omega
   have ob:=I.ok b hb'
   have w2:=wJ ob.1 ob.2 hn
   have d:decide ((b:Int)<0)=false:=zdf
   have dv:decide ((J.getD i zJ).2.1+now-(J.getD i zJ).2.2.1>(J.getD b zJ).2.1+now-(J.getD b zJ).2.2.1)=decide (jv (J.getD i zJ)>jv (J.getD b zJ)):=by
    unfold jv
    by_cases q:(J.getD i zJ).2.1-(J.getD i zJ).2.2.1>(J.getD b zJ).2.1-(J.getD b zJ).2.2.1
    ·rw[zl86 q,zdt]
    ·rw[zl90 q,zdf]
   dsimp only[Cs]
   rw[←dv]
   unfold zJ at i1 i2 w1 w2 ⊢
   simp only[Ld,gl hi,gl hb',g0,zl94,i1,zov i1,i2,zov i2,dn,d,w1,w2,zl70,zl98,zl99,AA,pO,wi]
   cases decide ((J.getD i ((0:Int),(0:Int),(0:Int),())).2.1+now-(J.getD i ((0:Int),(0:Int),(0:Int),())).2.2.1>(J.getD b ((0:Int),(0:Int),(0:Int),())).2.1+now-(J.getD b ((0:Int),(0:Int),(0:Int),())).2.2.1)<;>rfl) (by
  have d1:decide ((J.length:Int)<(J.length:Int))=false:=zdf
  simp only[Ld,d1,pO,ia]) 0 (lB _)
 have c':Comes Ld ((0,-1,J,now),()) _:=c
 simp only[q95,cb c',cv c',dW,ia]
def sv (v:Sv):Int:=3-v.2.2.2.2.1-v.2.2.2.2.2.1
structure EO (S:List Sv) (now:Int):Prop where
 len:S.length≤100000
 nw:now≤99999
 cl:∀i,i<S.length→0≤(S.getD i zS).1∧(S.getD i zS).1≤3
 AU:∀i j,i<j→j<S.length→(S.getD i zS).1<(S.getD j zS).1
 wd:∀i,i<S.length→0≤(S.getD i zS).2.2.2.2.1∧(S.getD i zS).2.2.2.2.1≤3
 sn:∀i,i<S.length→0≤(S.getD i zS).2.2.2.2.2.1∧(S.getD i zS).2.2.2.2.2.1≤now
def EO.inj {S:List Sv}{now:Int}(I:EO S now){i j:Nat}(hi:i<S.length)(hj:j<S.length)(h:(S.getD i zS).1=(S.getD j zS).1):i=j:=by
 rcases Nat.lt_trichotomy i j with q|q|q
 ·have:=I.AU i j q hj;omega
 ·exact q
 ·have:=I.AU j i q hi;omega
def vO (S:List Sv)(O:List Nat)(k:Nat):Int:=sv (S.getD (O.getD k 0) zS)
def nxt (S:List Sv)(O:List Nat):Option Nat:=(CD (vO S O) O.length).map fun k=>O.getD k 0
def Cc (f:Nat→Int)(S:List Sv)(O:List Nat):List Jb:=O.map fun i=>(f i,3-(S.getD i zS).2.2.2.2.1,(S.getD i zS).2.2.2.2.2.1,())
def IZ (f:Nat→Int)(S:List Sv)(O:List Nat):(Cc f S O).length=O.length:=by simp[Cc]
def P8 (f:Nat→Int)(S:List Sv)(O:List Nat)(k:Nat)(h:k<O.length):(Cc f S O).getD k zJ=(f (O.getD k 0),3-(S.getD (O.getD k 0) zS).2.2.2.2.1,(S.getD (O.getD k 0) zS).2.2.2.2.2.1,()):=by
 rw[getD_eq _ _ _ (by rw[IZ];exact h),getD_eq _ _ _ h]
 simp[Cc]
def Yn {S:List Sv}{now:Int}(I:EO S now)(f:Nat→Int){O:List Nat}(h:∀i∈O,i<S.length)(hl:O.length≤S.length):JobsI (Cc f S O) now:=by
 refine⟨by rw[IZ];have:=I.len;omega,I.nw,fun i hi=>?_⟩
 rw[IZ] at hi
 rw[P8 _ _ _ _ hi]
 have m:O.getD i 0<S.length:=h _ (by rw[getD_eq _ _ _ hi];exact zl96 hi)
 have a:=I.wd _ m
 have b:=I.sn _ m
 exact⟨⟨by show 0≤3-_;omega,by show 3-_≤(3:Int);omega⟩,b⟩
def Ym (f:Nat→Int)(S:List Sv)(O:List Nat):CD (fun k=>jv ((Cc f S O).getD k zJ)) (Cc f S O).length=CD (vO S O) O.length:=by
 rw[IZ]
 exact WZ fun i hi=>by rw[P8 _ _ _ _ hi];rfl
def wD {w:Int}(h:0≤w∧w≤3):IntKind.wrap .i64 (3-w)=3-w:=wrap64 (by omega) (by omega)
def hs (S:List Sv)(k:Nat):Int:=Int.tmod (S.getD k zS).1 2
def own (S:List Sv)(h:Int)(i:Nat):List Nat:=(List.range i).filter fun k=>hs S k==h
def ahd (S:List Sv)(h:Int)(i:Nat):own S h (i+1)=own S h i++(bif hs S i==h then [i] else []):=by
 unfold own
 rw[List.range_succ,List.filter_append]
 cases e:(hs S i==h)<;>simp[e]
def Zi (S:List Sv)(h:Int)(i:Nat):(own S h i).length≤i:=by
 have:=List.length_filter_le (fun k=>hs S k==h) (List.range i)
 rw[List.length_range] at this
 exact this
def ahc {S:List Sv}{h:Int}{n k:Nat}:k∈own S h n↔k<n∧hs S k=h:=by
 unfold own;rw[List.mem_filter,List.mem_range,zl78]
def isB (S:List Sv)(h c:Int):Bool:=match nxt S (own S h S.length) with
 |some j=>(S.getD j zS).1==c
 |none=>false
def ajG (s:b7.D)(I:EO s.2.2.2.2.2.2.1 s.2.1)(c:Int):G0 (s,c)=some (isB s.2.2.2.2.2.2.1 (Int.tmod c 2) c,()):=by
 have hS:=I.len
 have hh (x:Int):Cj x=some (Int.tmod x 2,()):=rfl
 have jo:=ac6 (Yn I (fun i=>(s.2.2.2.2.2.2.1.getD i zS).1) (O:=own s.2.2.2.2.2.2.1 (Int.tmod c 2) s.2.2.2.2.2.2.1.length) (fun i hi=>(ahc.1 hi).1) (Zi _ _ _))
 rw[Ym] at jo
 have q:=Bb (r:=Kx) (fun i=>(((i:Int),(),(),c),s,Cc (fun i=>(s.2.2.2.2.2.2.1.getD i zS).1) s.2.2.2.2.2.2.1 (own s.2.2.2.2.2.2.1 (Int.tmod c 2) i))) (n:=s.2.2.2.2.2.2.1.length) (y:=((c,(),()),Cc (fun i=>(s.2.2.2.2.2.2.1.getD i zS).1) s.2.2.2.2.2.2.1 (own s.2.2.2.2.2.2.1 (Int.tmod c 2) s.2.2.2.2.2.2.1.length),s)) (fun i hi=>by
  have ol:=Zi s.2.2.2.2.2.2.1 (Int.tmod c 2) i
  have hm:decide ((Cc (fun i=>(s.2.2.2.2.2.2.1.getD i zS).1) s.2.2.2.2.2.2.1 (own s.2.2.2.2.2.2.1 (Int.tmod c 2) i)).length+1≤eV)=true:=by rw[IZ];unfold eV;exact zdt
  have jb:E3 (s.2.2.2.2.2.2.1.getD i zS)=some (((s.2.2.2.2.2.2.1.getD i zS).1,3-(s.2.2.2.2.2.2.1.getD i zS).2.2.2.2.1,(s.2.2.2.2.2.2.1.getD i zS).2.2.2.2.2.1,()),()):=by
   simp only[E3,wD (I.wd i hi)]
  rw[ahd]
  unfold hs
  cases e:(Int.tmod (s.2.2.2.2.2.2.1.getD i zS).1 2==Int.tmod c 2) with
  |true=>
   simp only[dW,Cc,zl54,mT,List.map_nil]
   unfold Cc at hm
   unfold zS at e jb hm ⊢
   simp only[Kx,gl hi,g0,zl94,hh,zov (hh _),e,jb,zov jb,hm,AA,zw (i:=i)]
  |false=>
   simp only[pO,jM]
   unfold zS at e ⊢
   simp only[Kx,gl hi,g0,zl94,hh,zov (hh _),e,AA,pO,zw (i:=i)]) (by
  have d1:decide ((s.2.2.2.2.2.2.1.length:Int)<(s.2.2.2.2.2.2.1.length:Int))=false:=zdf
  simp only[Kx,d1,pO,ia]) 0 (lB _)
 have q':Comes Kx ((0,(),(),c),s,[]) _:=q
 unfold isB nxt
 cases e:CD (vO s.2.2.2.2.2.2.1 (own s.2.2.2.2.2.2.1 (Int.tmod c 2) s.2.2.2.2.2.2.1.length)) (own s.2.2.2.2.2.2.1 (Int.tmod c 2) s.2.2.2.2.2.2.1.length).length with
 |none=>
  rw[e] at jo
  simp only[G0,cb q',cv q',dW,jo,zov jo,Fo,zU]
  rfl
 |some k=>
  have hk:=LA e
  have hk':k<(Cc (fun i=>(s.2.2.2.2.2.2.1.getD i zS).1) s.2.2.2.2.2.2.1 (own s.2.2.2.2.2.2.1 (Int.tmod c 2) s.2.2.2.2.2.2.1.length)).length:=by rw[IZ];exact hk
  have d:decide ((k:Int)≥0)=true:=zdt
  have g:=P8 (fun i=>(s.2.2.2.2.2.2.1.getD i zS).1) s.2.2.2.2.2.2.1 _ _ hk
  unfold zJ at g
  rw[e] at jo
  dsimp only[Cs,Option.map] at jo ⊢
  simp only[G0,cb q',cv q',jo,zov jo,AA,d,zl94,gl hk',g,zl70,zl71]
def lvl (b:Bu)(now:Int):Int:=IntKind.wrap .i64 (b.1+IntKind.wrap .i64 (b.2.2.1*IntKind.wrap .i64 (now-b.2.2.2.1)))
def bV (b:Bu)(now:Int):Bu:=(if b.2.1<lvl b now then b.2.1 else lvl b now,b.2.1,b.2.2.1,now,b.2.2.2.2)
def ac0 (b:Bu)(now:Int):G7 (b,now)=some (bV b now,()):=by
 unfold bV
 by_cases h:b.2.1<lvl b now
 ·have d:decide (lvl b now>b.2.1)=true:=zl86 h
  rw[bQ h]
  unfold lvl at d
  simp only[G7,d,dW]
 ·have d:decide (lvl b now>b.2.1)=false:=zl90 h
  rw[cT h]
  unfold lvl at d ⊢
  simp only[G7,d,pO]
noncomputable def szV (L:Nat):Int:=(zog Ci (L:Int)).1.2.1
noncomputable def O0 (fT:List It) (e:Int):Int:=match D8 fT e with
 |some i=>szV (fT.getD i z0).2.2.2.1.length
 |none=>0
def ahp {L:Nat}(h1:1≤L)(hL:L≤300):∃P:gT.D,Ci (L:Int)=some (P,())∧q91 (L:Int)=some (P,())∧P.2.1=szV L:=by
 obtain⟨P,_,a,b⟩:=ZD L h1 hL
 exact⟨P,a,b,by unfold szV;rw[zov a]⟩
def Yl {c:Ct}(I:BL c){i:Nat}(h:i<c.2.1.length):(0≤(c.2.1.getD i z0).1∧(c.2.1.getD i z0).1≤1)∧1≤(c.2.1.getD i z0).2.2.2.1.length∧(c.2.1.getD i z0).2.2.2.1.length≤300:=by
 have m:c.2.1.getD i z0∈c.2.1:=by rw[getD_eq _ _ _ h];exact zl96 h
 have:=Jl (I.ok _ m)
 exact⟨this.1,this.2.2⟩
noncomputable def IB (B:List Bu) (fT:List It) (S:List Sv) (k:Nat):Bool:=
 isB S (hs S k) (S.getD k zS).1&&decide ((B.getD (hs S k).toNat zB).1≥O0 fT (S.getD k zS).2.2.1)
noncomputable def Dj (B:List Bu) (fT:List It) (S:List Sv) (i:Nat):List Nat:=(List.range i).filter (IB B fT S)
def ajy (B:List Bu)(fT:List It)(S:List Sv)(i:Nat):Dj B fT S (i+1)=Dj B fT S i++(bif IB B fT S i then [i] else []):=by
 unfold Dj
 rw[List.range_succ,List.filter_append]
 cases e:IB B fT S i<;>simp[e]
def acW (B:List Bu)(fT:List It)(S:List Sv)(i:Nat):(Dj B fT S i).length≤i:=by
 have:=List.length_filter_le (IB B fT S) (List.range i)
 rw[List.length_range] at this
 exact this
def acX {B:List Bu}{fT:List It}{S:List Sv}{n k:Nat}:k∈Dj B fT S n↔k<n∧IB B fT S k=true:=by
 unfold Dj;rw[List.mem_filter,List.mem_range]
def hs_b {S:List Sv}{now:Int}(I:EO S now){k:Nat}(h:k<S.length):hs S k=0∨hs S k=1:=by
 have:=I.cl k h
 unfold hs
 rw[Int.tmod_eq_emod_of_nonneg this.1];omega
def ajR (s:b7.D)(I:EO s.2.2.2.2.2.2.1 s.2.1)(C:BL s.2.2.2.1)(hB:s.2.2.2.2.2.1.length=2) :
  L9 s=some (Cc (fun i=>(s.2.2.2.2.2.2.1.getD i zS).1) s.2.2.2.2.2.2.1 (Dj s.2.2.2.2.2.1 s.2.2.2.1.2.1 s.2.2.2.2.2.2.1 s.2.2.2.2.2.2.1.length),()):=by
 have hS:=I.len
 have hl:=C.len
 have hh (x:Int):Cj x=some (Int.tmod x 2,()):=rfl
 have q:=Bb (r:=H8) (fun i=>(((i:Int),(),()),Cc (fun i=>(s.2.2.2.2.2.2.1.getD i zS).1) s.2.2.2.2.2.2.1 (Dj s.2.2.2.2.2.1 s.2.2.2.1.2.1 s.2.2.2.2.2.2.1 i),s)) (n:=s.2.2.2.2.2.2.1.length)
  (y:=((),Cc (fun i=>(s.2.2.2.2.2.2.1.getD i zS).1) s.2.2.2.2.2.2.1 (Dj s.2.2.2.2.2.1 s.2.2.2.1.2.1 s.2.2.2.2.2.2.1 s.2.2.2.2.2.2.1.length))) (fun i hi=>by
  have ol:=acW s.2.2.2.2.2.1 s.2.2.2.1.2.1 s.2.2.2.2.2.2.1 i
  have hm:decide ((Cc (fun i=>(s.2.2.2.2.2.2.1.getD i zS).1) s.2.2.2.2.2.2.1 (Dj s.2.2.2.2.2.1 s.2.2.2.1.2.1 s.2.2.2.2.2.2.1 i)).length+1≤eV)=true:=by rw[IZ];unfold eV;exact zdt
  have jb:E3 (s.2.2.2.2.2.2.1.getD i zS)=some (((s.2.2.2.2.2.2.1.getD i zS).1,3-(s.2.2.2.2.2.2.1.getD i zS).2.2.2.2.1,(s.2.2.2.2.2.2.1.getD i zS).2.2.2.2.2.1,()),()):=by
   simp only[E3,wD (I.wd i hi)]
  have bt:=ajG s I (s.2.2.2.2.2.2.1.getD i zS).1
  have ed:=Rq s.2.2.2.1 (s.2.2.2.2.2.2.1.getD i zS).2.2.1 (by omega)
  have hb:=hs_b I hi
  have hk:(hs s.2.2.2.2.2.2.1 i).toNat<s.2.2.2.2.2.1.length:=by omega
  have hk0:decide (0≤hs s.2.2.2.2.2.2.1 i)=true:=zdt
  have hk1:decide (hs s.2.2.2.2.2.2.1 i<(s.2.2.2.2.2.1.length:Int))=true:=zdt
  rw[ajy]
  have key:Cc (fun i=>(s.2.2.2.2.2.2.1.getD i zS).1) s.2.2.2.2.2.2.1 (Dj s.2.2.2.2.2.1 s.2.2.2.1.2.1 s.2.2.2.2.2.2.1 i++(bif IB s.2.2.2.2.2.1 s.2.2.2.1.2.1 s.2.2.2.2.2.2.1 i then [i] else []))
    = bif IB s.2.2.2.2.2.1 s.2.2.2.1.2.1 s.2.2.2.2.2.2.1 i then Cc (fun i=>(s.2.2.2.2.2.2.1.getD i zS).1) s.2.2.2.2.2.2.1 (Dj s.2.2.2.2.2.1 s.2.2.2.1.2.1 s.2.2.2.2.2.2.1 i) ++ [((s.2.2.2.2.2.2.1.getD i zS).1,3-(s.2.2.2.2.2.2.1.getD i zS).2.2.2.2.1,(s.2.2.2.2.2.2.1.getD i zS).2.2.2.2.2.1,())] else Cc (fun i=>(s.2.2.2.2.2.2.1.getD i zS).1) s.2.2.2.2.2.2.1 (Dj s.2.2.2.2.2.1 s.2.2.2.1.2.1 s.2.2.2.2.2.2.1 i):=by
   cases IB s.2.2.2.2.2.1 s.2.2.2.1.2.1 s.2.2.2.2.2.2.1 i
   ·simp only[pO,jM]
   ·simp only[dW,Cc,zl54,mT,List.map_nil]
  rw[key]
  generalize Cc (fun i=>(s.2.2.2.2.2.2.1.getD i zS).1) s.2.2.2.2.2.2.1 (Dj s.2.2.2.2.2.1 s.2.2.2.1.2.1 s.2.2.2.2.2.2.1 i)=J at *
  unfold IB
  unfold hs at hk hk0 hk1 ⊢
  generalize isB s.2.2.2.2.2.2.1 (Int.tmod (s.2.2.2.2.2.2.1.getD i zS).1 2) (s.2.2.2.2.2.2.1.getD i zS).1=bb at *
  cases h:D8 s.2.2.2.1.2.1 (s.2.2.2.2.2.2.1.getD i zS).2.2.1 with
  |none=>
   rw[h] at ed
   dsimp only[HH,Option.isSome] at ed
   have ez:O0 s.2.2.2.1.2.1 (s.2.2.2.2.2.2.1.getD i zS).2.2.1=0:=by unfold O0;rw[h]
   rw[ez]
   unfold zS at *
   unfold zB
   cases bb with
   |false=>
    simp only[H8,gl hi,g0,zl94,hh,zov (hh _),ed,zov ed,bt,zov bt,zl98,zl76,zl93,AA,pO,zw (i:=i)]
   |true=>
    simp only[H8,gl hi,g0,zl94,hh,zov (hh _),ed,zov ed,bt,zov bt,hk0,hk1,zl70,zl71,zl108,AA,pO,zw (i:=i),jb,zov jb,hm]
    cases decide ((List.getD s.2.2.2.2.2.1 (Int.tmod (List.getD s.2.2.2.2.2.2.1 i ((0:Int),(0:Int),(0:Int),(0:Int),(0:Int),(0:Int),())).1 2).toNat ((0:Int),(0:Int),(0:Int),(0:Int),())).1≥0)<;>rfl
  |some j=>
   rw[h] at ed
   have hj:=Sz h
   obtain⟨_,l1,l2⟩:=Yl C hj
   obtain⟨P,p1,_,p3⟩:=ahp l1 l2
   dsimp only[HH,Option.isSome] at ed
   have ez:O0 s.2.2.2.1.2.1 (s.2.2.2.2.2.2.1.getD i zS).2.2.1=P.2.1:=by unfold O0;rw[h];exact p3.symm
   rw[ez]
   unfold z0 at ed p1
   unfold zS at *
   unfold zB
   cases bb with
   |false=>
    simp only[H8,gl hi,g0,zl94,hh,zov (hh _),ed,zov ed,p1,bt,zov bt,zl98,zl76,zl93,AA,pO,zw (i:=i)]
   |true=>
    simp only[H8,gl hi,g0,zl94,hh,zov (hh _),ed,zov ed,p1,zov p1,bt,zov bt,hk0,hk1,zl70,zl71,zl108,AA,zw (i:=i),jb,zov jb,hm]
    cases decide ((List.getD s.2.2.2.2.2.1 (Int.tmod (List.getD s.2.2.2.2.2.2.1 i ((0:Int),(0:Int),(0:Int),(0:Int),(0:Int),(0:Int),())).1 2).toNat ((0:Int),(0:Int),(0:Int),(0:Int),())).1≥P.2.1)<;>rfl) (by
  have d1:decide ((s.2.2.2.2.2.2.1.length:Int)<(s.2.2.2.2.2.2.1.length:Int))=false:=zdf
  simp only[H8,d1,pO,ia]) 0 (lB _)
 have q':Comes H8 ((0,(),()),[],s) _:=q
 simp only[L9,cb q',cv q',dW,ia]
section
variable (now:Int) (log:List UInt8) (cl hd:Int) (fT:List It) (fr:List Fr) (S:List Sv)
def akc (b0 b1:Bu) :
  Comes OL (((0:Int),(),()),(true,now,log,(cl,(),()),((),hd,()),(),(),()),(false,(0:Int),[],((0:Int),(),()),((),(0:Int),()),(),(),()),fT,fr,[b0,b1],S,[],[],[],[])
   (((),()),(false,(0:Int),[],((0:Int),(),()),((),(0:Int),()),(),(),()),(true,now,log,(cl,(),()),((),hd,()),(),(),()),[],[],[],[],fT,fr,[bV b0 now,bV b1 now],S):=by
 have e0:=ac0 b0 now
 have e1:=ac0 b1 now
 refine .again (x':=(((1:Int),(),()),(true,now,log,(cl,(),()),((),hd,()),(),(),()),(false,(0:Int),[],((0:Int),(),()),((),(0:Int),()),(),(),()),fT,fr,[bV b0 now,b1],S,[],[],[],[])) ?_
  (.again (x':=(((2:Int),(),()),(true,now,log,(cl,(),()),((),hd,()),(),(),()),(false,(0:Int),[],((0:Int),(),()),((),(0:Int),()),(),(),()),fT,fr,[bV b0 now,bV b1 now],S,[],[],[],[])) ?_ (.out rfl))
 ·have f:G7 (List.getD [b0,b1] (Int.toNat 0) ((0:Int),(0:Int),(0:Int),(0:Int),()),now)=some (bV b0 now,()):=e0
  simp only[OL,f,zov f,Fo,ia]
  rfl
 ·have f:G7 (List.getD [bV b0 now,b1] (Int.toNat 1) ((0:Int),(0:Int),(0:Int),(0:Int),()),now)=some (bV b1 now,()):=e1
  simp only[OL,f,zov f,Fo,ia]
  rfl
variable (up0:Bool) (now0:Int) (log0:List UInt8) (cl0 hd0:Int) (its0:List It) (fr0:List Fr) (bks0:List Bu) (AW:List Sv) (rd:List Int) (B:List Bu)
end
def ajF (s:b7.D){now:Int}(I:EO s.2.2.2.2.2.2.1 now)(k:Nat)(hk:k<s.2.2.2.2.2.2.1.length):Gc (s,(s.2.2.2.2.2.2.1.getD k zS).1)=some ((k:Int),()):=by
 have hS:=I.len
 have q:=En (r:=Fx) (fun i=>(((i:Int),(s.2.2.2.2.2.2.1.getD k zS).1,()),s)) (n:=s.2.2.2.2.2.2.1.length) (p:=fun i=>(s.2.2.2.2.2.2.1.getD i zS).1==(s.2.2.2.2.2.2.1.getD k zS).1) (yt:=fun i=>.inl ((i:Int),())) (yn:=.inr ((),())) (fun i hi hp=>by
   unfold zS at hp ⊢
   simp only[Fx,gl hi,g0,zl94,hp,zU,zl92,dW,pO,zw (i:=i)]) (fun i hi hp=>by
   unfold zS at hp ⊢
   simp only[Fx,gl hi,g0,zl94,hp,zU,zl92,dW]) (by
   have d1:decide ((s.2.2.2.2.2.2.1.length:Int)<(s.2.2.2.2.2.2.1.length:Int))=false:=zdf
   simp only[Fx,d1,pO])
 have f:first s.2.2.2.2.2.2.1.length (fun i=>(s.2.2.2.2.2.2.1.getD i zS).1==(s.2.2.2.2.2.2.1.getD k zS).1)=some k:=CE.2 ⟨hk,zl95 _,fun j hj=>by
  rw[zl89]
  have:=I.AU j k hj hk
  omega⟩
 rw[f] at q
 have q':Comes Fx ((0,(s.2.2.2.2.2.2.1.getD k zS).1,()),s) (.inl ((k:Int),())):=q
 simp only[Gc,cb q',cv q',dW,ia]
def wo (S:List Sv)(c:Int)(i:Nat):List Sv:=(S.take i).filter fun v=>v.1 != c
def akO (S:List Sv)(c:Int)(i:Nat)(h:i<S.length):wo S c (i+1)=wo S c i++(bif(S.getD i zS).1 != c then [S.getD i zS] else []):=by
 unfold wo
 rw[zl88 h,List.filter_append,getD_eq _ _ _ h]
 cases e:(S[i].1 != c)<;>simp[e]
def UM (S:List Sv)(c:Int)(i:Nat):(wo S c i).length≤i:=by
 have:=List.length_filter_le (fun v:Sv=>v.1 != c) (S.take i)
 rw[zl3] at this
 unfold wo;omega
def wo_all {S:List Sv}{now:Int}(I:EO S now)(k:Nat)(hk:k<S.length):wo S (S.getD k zS).1 S.length=S.eraseIdx k:=by
 have sp:S=S.take k++S.getD k zS::S.drop (k+1):=by
  rw[getD_eq _ _ _ hk,←zl109 hk,zl68]
 have f1:∀v∈S.take k,(v.1 != (S.getD k zS).1)=true:=fun v hv=>by
  obtain⟨i,hi,rfl⟩:=List.mem_iff_getElem.1 hv
  rw[zl3] at hi
  have:=I.AU i k (by omega) hk
  rw[getD_eq _ _ _ (show i<S.length by omega)] at this
  rw[List.getElem_take]
  simp only[bne_iff_ne];omega
 have f2:∀v∈S.drop (k+1),(v.1 != (S.getD k zS).1)=true:=fun v hv=>by
  obtain⟨i,hi,rfl⟩:=List.mem_iff_getElem.1 hv
  rw[zl4] at hi
  have:=I.AU k (k+1+i) (by omega) (by omega)
  rw[getD_eq S (k+1+i) _ (show k+1+i<S.length by omega)] at this
  rw[List.getElem_drop]
  simp only[bne_iff_ne];omega
 unfold wo
 rw[zl102,zl112]
 generalize (S.getD k zS)=x at *
 conv=>lhs;rw[sp]
 rw[List.filter_append,List.filter_cons,List.filter_eq_self.2 f1,List.filter_eq_self.2 f2]
 simp
def Ru (s:b7.D)(hS:s.2.2.2.2.2.2.1.length≤100000)(c:Int):Hf (s,c)=some ((s.1,s.2.1,s.2.2.1,s.2.2.2.1,s.2.2.2.2.1,s.2.2.2.2.2.1,wo s.2.2.2.2.2.2.1 c s.2.2.2.2.2.2.1.length,s.2.2.2.2.2.2.2),()):=by
 have q:=Bb (r:=K8) (fun i=>(((i:Int),(),(),c,()),s,wo s.2.2.2.2.2.2.1 c i,(false,(0:Int),[],((0:Int),(),()),((),(0:Int),()),(),(),()),[],[],[],[])) (n:=s.2.2.2.2.2.2.1.length)
  (y:=(((),(),()),(false,(0:Int),[],((0:Int),(),()),((),(0:Int),()),(),(),()),s,wo s.2.2.2.2.2.2.1 c s.2.2.2.2.2.2.1.length,[],[],[],[])) (fun i hi=>by
  have wl:=UM s.2.2.2.2.2.2.1 c i
  have hm:decide ((wo s.2.2.2.2.2.2.1 c i).length+1≤eV)=true:=by unfold eV;exact zdt
  rw[akO _ _ _ hi]
  generalize wo s.2.2.2.2.2.2.1 c i=L at *
  unfold zS
  cases e:((List.getD s.2.2.2.2.2.2.1 i ((0:Int),(0:Int),(0:Int),(0:Int),(0:Int),(0:Int),())).1 != c) with
  |true=>simp only[K8,gl hi,g0,zl94,e,hm,zU,zl92,dW,zw (i:=i)]
  |false=>simp only[K8,gl hi,g0,zl94,e,zU,zl92,dW,pO,jM,zw (i:=i)]) (by
  have d1:decide ((s.2.2.2.2.2.2.1.length:Int)<(s.2.2.2.2.2.2.1.length:Int))=false:=zdf
  simp only[K8,d1,pO]) 0 (lB _)
 have q':Comes K8 ((0,(),(),c,()),s,[],(false,(0:Int),[],((0:Int),(),()),((),(0:Int),()),(),(),()),[],[],[],[]) _:=q
 simp only[Hf,cb q',cv q',dW,ia]
structure TickI (now cl hd:Int) (fT:List It) (l:List Fr) (h:Nat) (S:List Sv):Prop where
 nw0:0≤now
 Ay:EO S now
 cat:BL (cl,fT,())
 hde:hd=(h:Int)
 GY:Ca l h
 free:IK l
 ed:∀i,i<S.length→1≤(S.getD i zS).2.2.1∧(S.getD i zS).2.2.1≤cl
 nx:∀i,i<S.length→0≤(S.getD i zS).2.2.2.1∧(S.getD i zS).2.2.2.1≤9999
 hse:∀i,i<S.length→∀j,D8 fT (S.getD i zS).2.2.1=some j→(fT.getD j z0).1=Int.tmod (S.getD i zS).1 2
section
variable {now cl hd:Int} {log:List UInt8} {fT:List It} {l:List Fr} {h:Nat} {S:List Sv} {B:List Bu}
end
def ok_up {now cl:Int}{log:List UInt8}{fT:List It}{p:Po}{bk:List Bu}{S:List Sv}(ok:AQ (true,now,log,(cl,fT,()),p,bk,S,())=true)(h9:now<99999)(hl:S.length≤9999999) :
  ∃(l:List Fr) (h:Nat) (b0 b1:Bu),p=(l,(h:Int),())∧bk = [b0,b1]∧TickI (now+1) cl (h:Int) fT l h S∧IN b0=true∧IN b1=true∧b0.2.2.2.1≤now+1∧b1.2.2.2.1≤now+1∧1≤now+1:=by
 have C:=EY ok
 unfold AQ at ok
 simp only[bB] at ok
 obtain⟨n0,_,_,up⟩:=ok
 have n0:=zl79 n0
 simp only[dW,upV,bB,zl78] at up
 obtain⟨_,_,pv,bl,sv,fv,bv⟩:=up
 obtain⟨h,pe,G⟩:=ahr pv
 have n0:0≤now∧now≤99999:=n0
 have bl:bk.length=2:=bl
 match bk,bl with
 | [b0,b1],_=>
 have bq:=wv.1 bv
 have sq:=wv.1 sv
 have fq:=wv.1 fv
 have bz:∀b:Bu,(!JY now b)=true→IN b=true∧b.2.2.2.1≤now:=fun b q=>by
  unfold JY at q
  cases e:IN b with
  |false=>rw[e] at q;cases q
  |true=>
   rw[e] at q
   cases e1:(b.2.1 != 40) with
   |true=>rw[e1] at q;cases q
   |false=>
    cases e2:(b.2.2.1 != 8) with
    |true=>rw[e1,e2] at q;cases q
    |false=>
     cases e3:decide (b.2.2.2.1>now) with
     |true=>rw[e1,e2,e3] at q;cases q
     |false=>exact⟨rfl,by have:=zl101 e3;omega⟩
 have z0_:=bz b0 (bq 0 (by show 0<2;omega))
 have z1_:=bz b1 (bq 1 (by show 1<2;omega))
 have sx:∀i,i<S.length→EL (cl,fT,()) now S i=false:=fun i hi=>by
  have:=sq i hi
  cases e:EL (cl,fT,()) now S i with
  |false=>rfl
  |true=>have this:(!EL (cl,fT,()) now S i)=true:=this;rw[e] at this;cases this
 have sy:∀i,i<S.length→(0≤(S.getD i zS).1∧(S.getD i zS).1≤3)∧OB S i (S.getD i zS).1=false∧(1≤(S.getD i zS).2.2.1∧(S.getD i zS).2.2.1≤cl)∧(0≤(S.getD i zS).2.2.2.1∧(S.getD i zS).2.2.2.1≤9999)∧(0≤(S.getD i zS).2.2.2.2.1∧(S.getD i zS).2.2.2.2.1≤3)∧(0≤(S.getD i zS).2.2.2.2.2.1∧(S.getD i zS).2.2.2.2.2.1≤now)∧NH (cl,fT,()) (S.getD i zS)=false:=fun i hi=>by
  have q:=sx i hi
  unfold EL at q
  simp only[ry,Bool.not_eq_false'] at q
  obtain⟨⟨⟨⟨⟨⟨⟨q1,q2⟩,_⟩,q3⟩,q4⟩,q5⟩,q6⟩,q7⟩:=q
  exact⟨zl79 q1,q2,zl79 q3,zl79 q4,zl79 q5,zl79 q6,q7⟩
 have nxt_:∀i,i+1<S.length→(S.getD i zS).1<(S.getD (i+1) zS).1:=fun i hi=>by
  have q:=(sy (i+1) hi).2.1
  have:=zl101 q
  omega
 have AU:∀d i,i+1+d<S.length→(S.getD i zS).1<(S.getD (i+1+d) zS).1:=by
  intro d
  induction d with
  |zero=>intro i hi;exact nxt_ i hi
  |succ d ih=>
   intro i hi
   have a:=ih i (by omega)
   have b:=nxt_ (i+1+d) (by omega)
   rw[show i+1+(d+1)=i+1+d+1 by omega]
   omega
 have cl3:S.length≤100000:=by
  by_cases q:S.length≤100000
  ·exact q
  ·exfalso
   have h1:=AU 0 0 (by omega)
   have h2:=AU 0 1 (by omega)
   have h3:=AU 0 2 (by omega)
   have h4:=AU 0 3 (by omega)
   have:=(sy 0 (by omega)).1
   have:=(sy 4 (by omega)).1
   simp only[Nat.reduceAdd] at h1 h2 h3 h4
   omega
 have fr:IK p.1:=fun i hi=>by
  have hd:=(G.held i hi).1
  have q:=fq i (by show i<p.1.length;rw[G.len];exact hi)
  cases e:decide ((p.1.getD i zF).2.2.2.1>0) with
  |false=>have:=zl101 e;omega
  |true=>
   have q:(!J2 (cl,fT,()) (p.1.getD i zF))=true:=q
   unfold J2 at q
   rw[e] at q;cases q
 refine⟨p.1,h,b0,b1,pe,rfl,⟨by omega,⟨cl3,by omega,fun i hi=>(sy i hi).1,fun i j hij hj=>?_,fun i hi=>(sy i hi).2.2.2.2.1,fun i hi=>?_⟩,C,rfl,G,fr,fun i hi=>(sy i hi).2.2.1,fun i hi=>(sy i hi).2.2.2.1,fun i hi j hj=>?_⟩,z0_.1,z1_.1,by omega,by omega,by omega⟩
 ·have:=AU (j-i-1) i (by omega)
  rwa[show i+1+(j-i-1)=j by omega] at this
 ·have:=(sy i hi).2.2.2.2.2.1;omega
 ·have q:=(sy i hi).2.2.2.2.2.2
  unfold NH at q
  dsimp only at q
  rw[hj] at q
  simpa[HH] using q
def El (w:eL.D):Bool:=
 ((((nc w.2.1 0 99999&&nc w.2.2.1 1 99999)&&nc w.2.2.2.1 0 99999)&&nc w.2.2.2.2.1 0 99999) && !decide ((w.2.2.2.2.2.2.1.length:Int)>80)) &&
 (bif w.1==1 then EB w.2.2.2.2.2.1&&(w.2.2.2.2.1==0&&w.2.2.2.2.2.2.1 == []) else(w.2.2.2.2.2.1 == [] &&
  (bif w.1==6 then w.2.2.2.2.1==0&&w.2.2.2.2.2.2.1 == [] else bif w.1==2 then decide (w.2.2.2.1>0)&&(w.2.2.2.2.1==0 && !(w.2.2.2.2.2.2.1 == [])) else bif w.1==3 then decide (w.2.2.2.1>0) && !(w.2.2.2.2.2.2.1 == []) else
   bif w.1==4 then decide (w.2.2.2.1>0)&&w.2.2.2.2.2.2.1 == [] else bif w.1==5 then decide (w.2.2.2.1>0)&&w.2.2.2.2.2.2.1 == [] else false)))
def O6 (w:eL.D)(hn:w.2.2.2.2.2.1.length≤9999999):EG w=some (El w,()):=by
 have nm:=Rr w.2.2.2.2.2.1 hn
 unfold El
 simp only[EG,B5,zov (B5 _ _ _),nm,zov nm,zl99,AA]
 cases nc w.2.1 0 99999
 ·rfl
 cases nc w.2.2.1 1 99999
 ·rfl
 cases nc w.2.2.2.1 0 99999
 ·rfl
 cases nc w.2.2.2.2.1 0 99999
 ·rfl
 cases decide ((w.2.2.2.2.2.2.1.length:Int)>80)
 ·simp only[zl70,zl98,pO,zl92,zl108]
  cases (w.1==(1:Int))
  ·simp only[pO,dW,zl98]
   cases (w.2.2.2.2.2.1 == [])
   ·rfl
   ·simp only[zl70,pO,zl108]
    cases (w.1==(6:Int))
    ·cases (w.1==(2:Int))
     ·cases (w.1==(3:Int))
      ·cases (w.1==(4:Int))
       ·cases (w.1==(5:Int))
        ·rfl
        ·cases decide (w.2.2.2.1>0)<;>rfl
       ·cases decide (w.2.2.2.1>0)<;>rfl
      ·cases decide (w.2.2.2.1>0)<;>rfl
     ·cases decide (w.2.2.2.1>0)<;>cases (w.2.2.2.2.1==0)<;>rfl
    ·cases (w.2.2.2.2.1==0)<;>rfl
  ·simp only[dW,zl70,pO]
   cases EB w.2.2.2.2.2.1
   ·rfl
   ·cases (w.2.2.2.2.1==0)<;>rfl
 ·rfl
def mr (n:Nat)(h:n≤100000):decide (n≤eV)=true:=by unfold eV;exact zdt
def HO (a b:Sv):Bool:=decide (a.1<b.1)
def posO (S:List Sv)(c:Int):Option Nat:=first S.length (fun i=> !decide ((S.getD i zS).1<c))
def Kr (S:List Sv)(c:Int):Nat:=match posO S c with
 |some i=>i
 |none=>S.length
def ahs (S:List Sv)(c:Int):Kr S c≤S.length:=by
 unfold Kr
 cases e:posO S c with
 |none=>exact bA _
 |some i=>have:=(CE.1 e).1;dsimp only;omega
def P7 (S:List Sv)(v:Sv):List Sv:=S.take (Kr S v.1)++v::S.drop (Kr S v.1)
def adj {S:List Sv}{now:Int}(I:EO S now):S.length≤4:=by
 have st:∀d i,i+d<S.length→(S.getD i zS).1+(d:Int)≤(S.getD (i+d) zS).1:=by
  intro d
  induction d with
  |zero=>intro i hi;simp
  |succ d ih=>
   intro i hi
   have a:=ih i (by omega)
   have b:=I.AU (i+d) (i+(d+1)) (by omega) hi
   omega
 by_cases q:S.length≤4
 ·exact q
 ·exfalso
  have h:=st 4 0 (by omega)
  have h0:=(I.cl 0 (by omega)).1
  have h4:=(I.cl (0+4) (by omega)).2
  omega
def svO (S:List Sv)(c:Int):Option Nat:=first S.length (fun i=>(S.getD i zS).1==c)
def adb (s:b7.D)(hS:s.2.2.2.2.2.2.1.length≤100000)(c:Int):Gc (s,c)=some (Cs (svO s.2.2.2.2.2.2.1 c),()):=by
 have q:=En (r:=Fx) (fun i=>(((i:Int),c,()),s)) (n:=s.2.2.2.2.2.2.1.length) (p:=fun i=>(s.2.2.2.2.2.2.1.getD i zS).1==c) (yt:=fun i=>.inl ((i:Int),())) (yn:=.inr ((),())) (fun i hi hp=>by
   unfold zS at hp
   simp only[Fx,gl hi,g0,zl94,hp,zU,zl92,dW,pO,zw (i:=i)]) (fun i hi hp=>by
   unfold zS at hp
   simp only[Fx,gl hi,g0,zl94,hp,zU,zl92,dW]) (by
   have d1:decide ((s.2.2.2.2.2.2.1.length:Int)<(s.2.2.2.2.2.2.1.length:Int))=false:=zdf
   simp only[Fx,d1,pO])
 have q':Comes Fx ((0,c,()),s) _:=q
 simp only[Gc,cb q',cv q',dW,svO,ia]
 cases first s.2.2.2.2.2.2.1.length (fun i=>(s.2.2.2.2.2.2.1.getD i zS).1==c)<;>rfl
def aj5 (s:b7.D)(hS:s.2.2.2.2.2.2.1.length≤1000)(v:Sv):Mc (s,v)=some ((s.1,s.2.1,s.2.2.1,s.2.2.2.1,s.2.2.2.2.1,s.2.2.2.2.2.1,P7 (wo s.2.2.2.2.2.2.1 v.1 s.2.2.2.2.2.2.1.length) v,s.2.2.2.2.2.2.2),()):=by
 have w:=Ru s (by omega) v.1
 have wl:=UM s.2.2.2.2.2.2.1 v.1 s.2.2.2.2.2.2.1.length
 generalize wo s.2.2.2.2.2.2.1 v.1 s.2.2.2.2.2.2.1.length=L at *
 have q:=En (r:=KA) (fun i=>(((i:Int),(),(),()),(false,(0:Int),[],((0:Int),(),()),((),(0:Int),()),(),(),()),(s.1,s.2.1,s.2.2.1,s.2.2.2.1,s.2.2.2.2.1,s.2.2.2.2.2.1,(),s.2.2.2.2.2.2.2),v,[],[],[],[],L)) (n:=L.length) (p:=fun i=> !decide ((L.getD i zS).1<v.1))
  (yt:=fun i=>(((),(),(i:Int),()),(false,(0:Int),[],((0:Int),(),()),((),(0:Int),()),(),(),()),(s.1,s.2.1,s.2.2.1,s.2.2.2.1,s.2.2.2.2.1,s.2.2.2.2.2.1,(),s.2.2.2.2.2.2.2),v,[],[],[],[],L)) (yn:=(((),(),(L.length:Int),()),(false,(0:Int),[],((0:Int),(),()),((),(0:Int),()),(),(),()),(s.1,s.2.1,s.2.2.1,s.2.2.2.1,s.2.2.2.2.1,s.2.2.2.2.2.1,(),s.2.2.2.2.2.2.2),v,[],[],[],[],L)) (fun i hi hp=>by
   have hp':decide ((L.getD i zS).1<v.1)=true:=by simpa using hp
   unfold zS at hp'
   simp only[KA,gl hi,g0,zl94,hp',zl99,zU,zl92,dW,zw (i:=i)]) (fun i hi hp=>by
   have hp':decide ((L.getD i zS).1<v.1)=false:=by simpa using hp
   unfold zS at hp'
   simp only[KA,gl hi,g0,zl94,hp',zl99,zU,zl92,dW,pO]) (by
   have d1:decide ((L.length:Int)<(L.length:Int))=false:=zdf
   simp only[KA,d1,g0,zl99,zl98,zl76,zU,zl92,dW,pO])
 have pl:=ahs L v.1
 have q':Comes KA ((0,(),(),()),(false,(0:Int),[],((0:Int),(),()),((),(0:Int),()),(),(),()),(s.1,s.2.1,s.2.2.1,s.2.2.2.1,s.2.2.2.2.1,s.2.2.2.2.2.1,(),s.2.2.2.2.2.2.2),v,[],[],[],[],L) (((),(),(Kr L v.1:Int),()),(false,(0:Int),[],((0:Int),(),()),((),(0:Int),()),(),(),()),(s.1,s.2.1,s.2.2.1,s.2.2.2.1,s.2.2.2.2.1,s.2.2.2.2.2.1,(),s.2.2.2.2.2.2.2),v,[],[],[],[],L):=by
  unfold Kr posO
  revert q
  cases first L.length (fun i=> !decide ((L.getD i zS).1<v.1))<;>exact fun q=>q
 unfold P7
 generalize Kr L v.1=p at *
 have t0:Int.toNat ((p:Int)-0)=p:=by omega
 have t1:List.take (Int.toNat ((L.length:Int)-(p:Int))) (List.drop p L)=List.drop p L:=zl57 (by rw[zl4];omega)
 have t2:List.drop (Int.toNat (0:Int)) L=L:=rfl
 have b1:decide ((p:Int)≤(L.length:Int))=true:=zdt
 have b2:decide ((L.length:Int)≤(L.length:Int))=true:=zdt
 have m1:decide ((List.take p L ++ [v]).length+(List.drop p L).length≤eV)=true:=mr _ (by simp only[eY,zl103,zl3,zl4];omega)
 have m2:decide ((List.take p L).length+1≤eV)=true:=mr _ (by rw[zl3];omega)
 have m3:decide (0+(List.take p L).length≤eV)=true:=mr _ (by rw[zl3];omega)
 simp only[Mc,w,zov w,cb q',cv q',t0,t1,t2,zl94,zl17,b1,b2,m1,m2,m3,g0,AA,cZ,zl104]
def adV {c:Ct}(I:BL c){h:Int}{n:List UInt8}(ha:C_ c.2.1 h n=none):Ei (c,h,n)=some ((z0,false),()):=by
 have c1:=O2 c h n (by have:=I.len;omega)
 have c2:=Nu c I
 rw[ha] at c1
 have dm:decide ((-1:Int)<0)=true:=by decide
 dsimp only[Cs] at c1
 simp only[Ei,c1,zov c1,c2,zov c2,Fo,zU,dW,zl70,pO,dm,z0]
def adW {c:Ct}(I:BL c){h:Int}{n:List UInt8}{i:Nat}(ha:C_ c.2.1 h n=some i):i<c.2.1.length∧Ei (c,h,n)=some ((c.2.1.getD i z0,true),()):=by
 have c1:=O2 c h n (by have:=I.len;omega)
 have c2:=Nu c I
 rw[ha] at c1
 obtain⟨hi,_,_⟩:=Sa ha
 refine⟨hi,?_⟩
 have p3:decide ((i:Int)<0)=false:=zdf
 dsimp only[Cs] at c1
 simp only[Ei,c1,zov c1,c2,zov c2,AA,zl70,pO,gl hi,g0,p3,zl94,z0]
section
variable {up:Bool} {now cl:Int} {log:List UInt8} {fT:List It} {p:Po} {bk:List Bu} {S:List Sv} {w:eL.D}
end
section
variable {up:Bool} {now cl:Int} {log:List UInt8} {fT:List It} {p:Po} {bk:List Bu} {S:List Sv} {w:eL.D}
end
def ok_srv {now cl:Int}{log:List UInt8}{fT:List It}{p:Po}{bk:List Bu}{S:List Sv}(ok:AQ (true,now,log,(cl,fT,()),p,bk,S,())=true)(hl:S.length≤9999999):EO S now:=by
 have n0:0≤now∧now≤99999:=by
  have q:=ok
  unfold AQ at q
  simp only[bB] at q
  exact zl79 q.1
 unfold AQ at ok
 simp only[bB] at ok
 obtain⟨_,_,_,up⟩:=ok
 simp only[dW,upV,bB,zl78] at up
 obtain⟨_,_,_,_,sv,_,_⟩:=up
 have sq:=wv.1 sv
 have sx:∀i,i<S.length→EL (cl,fT,()) now S i=false:=fun i hi=>by
  have:=sq i hi
  cases e:EL (cl,fT,()) now S i with
  |false=>rfl
  |true=>have this:(!EL (cl,fT,()) now S i)=true:=this;rw[e] at this;cases this
 have sy:∀i,i<S.length→(0≤(S.getD i zS).1∧(S.getD i zS).1≤3)∧OB S i (S.getD i zS).1=false∧(0≤(S.getD i zS).2.2.2.2.1∧(S.getD i zS).2.2.2.2.1≤3)∧(0≤(S.getD i zS).2.2.2.2.2.1∧(S.getD i zS).2.2.2.2.2.1≤now):=fun i hi=>by
  have q:=sx i hi
  unfold EL at q
  simp only[ry,Bool.not_eq_false'] at q
  obtain⟨⟨⟨⟨⟨⟨⟨q1,q2⟩,_⟩,_⟩,_⟩,q5⟩,q6⟩,_⟩:=q
  exact⟨zl79 q1,q2,zl79 q5,zl79 q6⟩
 have AU:∀d i,i+1+d<S.length→(S.getD i zS).1<(S.getD (i+1+d) zS).1:=by
  intro d
  induction d with
  |zero=>
   intro i hi
   have q:=zl101 (sy (i+1) hi).2.1
   rw[zl50];omega
  |succ d ih=>
   intro i hi
   have a:=ih i (by omega)
   have b:=zl101 (sy (i+1+d+1) (by omega)).2.1
   rw[show i+1+(d+1)=i+1+d+1 by omega]
   omega
 have cl3:S.length≤100000:=by
  by_cases q:S.length≤100000
  ·exact q
  ·exfalso
   have h1:=AU 0 0 (by omega)
   have h2:=AU 0 1 (by omega)
   have h3:=AU 0 2 (by omega)
   have h4:=AU 0 3 (by omega)
   have:=(sy 0 (by omega)).1
   have:=(sy 4 (by omega)).1
   simp only[Nat.reduceAdd] at h1 h2 h3 h4
   omega
 refine⟨cl3,n0.2,fun i hi=>(sy i hi).1,fun i j hij hj=>?_,fun i hi=>(sy i hi).2.2.1,fun i hi=>(sy i hi).2.2.2⟩
 have:=AU (j-i-1) i (by omega)
 rwa[show i+1+(j-i-1)=j by omega] at this
structure w9 (r:dj.D) (p:Nat):Prop where
 len:r.1.length≤2000
 GC:∀x∈r.1,0≤x∧x≤255
 p0:0≤r.2.1
 p1:r.2.1≤p
def xor_nn {a b:Int}(a0:0≤a)(a1:a<4611686018427387904)(b0:0≤b)(b1:b<4611686018427387904):0≤pZ .xor .i64 a b:=by
 obtain⟨m,rfl⟩:=Int.eq_ofNat_of_zero_le a0
 obtain⟨n,rfl⟩:=Int.eq_ofNat_of_zero_le b0
 unfold pZ
 have h1:(BitVec.ofInt IntKind.i64.bits (m:Int)).toNat=m:=by
  rw[BitVec.toNat_ofInt];simp only[IntKind.bits];omega
 have h2:(BitVec.ofInt IntKind.i64.bits (n:Int)).toNat=n:=by
  rw[BitVec.toNat_ofInt];simp only[IntKind.bits];omega
 have h3:m ^^^ n<2 ^ 62:=Nat.xor_lt_two_pow (by omega) (by omega)
 simp only[BitVec.toNat_xor,h1,h2]
 rw[wrap64 (by omega) (by omega)]
 omega
def Sd {l:List Int}(h:∀x∈l,0≤x∧x≤255)(i:Nat):0≤l.getD i 0∧l.getD i 0≤255:=by
 by_cases hi:i<l.length
 ·rw[getD_eq _ _ _ hi];exact h _ (zl96 hi)
 ·rw[zl26,zl8 (by omega)];simp
def Ll {a n:Int}(a0:0≤a)(h:1≤n):0≤Int.tmod a n∧Int.tmod a n<n:=⟨Int.tmod_nonneg _ a0,Int.tmod_lt_of_pos _ (by omega)⟩
def TZ {r:dj.D}{p:Nat}(I:w9 r p)(hp:p≤1000000000)(n:Int) :
  ∃k r',m5 (r,n)=some (k,r',())∧0≤k∧(1≤n→k<n)∧(n<1→k=0)∧w9 r' (p+1):=by
 have p0:=I.p0
 have p1:=I.p1
 have hl:=I.len
 have w1:IntKind.wrap .i64 (r.2.1+1)=r.2.1+1:=wrap64 (by omega) (by omega)
 have w2:IntKind.wrap .i64 (r.2.1+1-1)=r.2.1:=by rw[wrap64 (by omega) (by omega)];omega
 have I':w9 (r.1,r.2.1+1,r.2.2) (p+1):=⟨hl,I.GC,by show 0≤r.2.1+1;omega,by show r.2.1+1≤((p+1:Nat):Int);omega⟩
 simp only[m5,w1,w2]
 by_cases hn:n<1
 ·exact⟨0,_,by rw[zl86 hn];rfl,by omega,by omega,fun _=>rfl,I'⟩
 rw[zl90 hn]
 by_cases h0:r.1.length=0
 ·exact⟨0,_,by rw[h0];rfl,by omega,by omega,fun _=>rfl,I'⟩
 have e0:((r.1.length:Int)==0)=false:=zl89.2 (by omega)
 have en:(n != 0)=true:=bne_iff_ne.2 (by omega)
 have el:((r.1.length:Int) != 0)=true:=bne_iff_ne.2 (by omega)
 simp only[pO,e0,en,el,zU]
 by_cases hq:r.2.1<r.1.length
 ·obtain⟨b0,b1⟩:=Sd I.GC r.2.1.toNat
  have w3:IntKind.wrap .i64 (r.1.getD r.2.1.toNat 0)=r.1.getD r.2.1.toNat 0:=wrap64 (by omega) (by omega)
  obtain⟨k0,k1⟩:=Ll b0 (show 1≤n by omega)
  exact⟨_,_,by simp only[zl86 hq,zl86 p0,zl92,dW,w3],k0,fun _=>k1,by omega,I'⟩
 ·obtain⟨t0,t1⟩:=Ll p0 (show 1≤(r.1.length:Int) by omega)
  have w4:IntKind.wrap .i64 (r.2.1*7)=r.2.1*7:=wrap64 (by omega) (by omega)
  have w5:IntKind.wrap .i64 (r.2.1*7+3)=r.2.1*7+3:=wrap64 (by omega) (by omega)
  obtain⟨s0,s1⟩:=Ll (show 0≤r.2.1*7+3 by omega) (show 1≤(r.1.length:Int) by omega)
  obtain⟨a0,a1⟩:=Sd I.GC (Int.tmod r.2.1 r.1.length).toNat
  obtain⟨b0,b1⟩:=Sd I.GC (Int.tmod (r.2.1*7+3) r.1.length).toNat
  have d0:0≤Int.tdiv r.2.1 r.1.length:=Int.tdiv_nonneg p0 (by omega)
  have d1:Int.tdiv r.2.1 r.1.length≤r.2.1:=by rw[zl91 p0];exact Int.ediv_le_self _ p0
  simp only[zl90 hq,pO,w4,w5,zl86 t0,zl86 t1,zl86 s0,zl86 s1,zl92,dW]
  generalize r.1.getD (Int.tmod r.2.1 r.1.length).toNat 0=A at *
  generalize r.1.getD (Int.tmod (r.2.1*7+3) r.1.length).toNat 0=B at *
  generalize Int.tdiv r.2.1 r.1.length=D at *
  have u1:IntKind.wrap .i64 A=A:=wrap64 (by omega) (by omega)
  have u2:IntKind.wrap .i64 B=B:=wrap64 (by omega) (by omega)
  have u3:IntKind.wrap .i64 D=D:=wrap64 (by omega) (by omega)
  have u4:IntKind.wrap .i64 (A*131)=A*131:=wrap64 (by omega) (by omega)
  have u5:IntKind.wrap .i64 (B*1117)=B*1117:=wrap64 (by omega) (by omega)
  have u6:IntKind.wrap .i64 (r.2.1*29)=r.2.1*29:=wrap64 (by omega) (by omega)
  have u7:IntKind.wrap .i64 (D*53)=D*53:=wrap64 (by omega) (by omega)
  have u8:IntKind.wrap .i64 (A*131+B*1117)=A*131+B*1117:=wrap64 (by omega) (by omega)
  have u9:IntKind.wrap .i64 (A*131+B*1117+r.2.1*29)=A*131+B*1117+r.2.1*29:=wrap64 (by omega) (by omega)
  have u10:IntKind.wrap .i64 (A*131+B*1117+r.2.1*29+D*53)=A*131+B*1117+r.2.1*29+D*53:=wrap64 (by omega) (by omega)
  simp only[u1,u2,u3,u4,u5,u6,u7,u8,u9,u10]
  have x0:0≤A*131+B*1117+r.2.1*29+D*53:=by omega
  have x1:A*131+B*1117+r.2.1*29+D*53<1000000000000:=by omega
  generalize A*131+B*1117+r.2.1*29+D*53=X at *
  have y0:0≤Int.tdiv X 64:=Int.tdiv_nonneg x0 (by omega)
  have y1:Int.tdiv X 64≤X:=by rw[zl91 x0];exact Int.ediv_le_self _ x0
  have w6:IntKind.wrap .i64 (Int.tdiv X 64)=Int.tdiv X 64:=wrap64 (by omega) (by omega)
  obtain⟨k0,k1⟩:=Ll (xor_nn x0 (by omega) y0 (show Int.tdiv X 64<4611686018427387904 by omega)) (show 1≤n by omega)
  exact⟨_,_,by rw[w6],k0,fun _=>k1,by omega,I'⟩
def Rt {α:Type}(x:Option α)(Q:α→Prop):Prop:=∃y,x=some y∧Q y
section
variable {α β γ:Type} {P:β→Prop} {Q:γ→Prop} {f:α→Option β} {f':α→β} {x:α} {K:β→Option γ}
def Rt.ok {y:γ}(h:Q y):Rt (some y) Q:=⟨y,rfl,h⟩
def Rt.mono {P':β→Prop}{z:Option β}(h:Rt z P)(k:∀y,P y→P' y):Rt z P':=by obtain⟨y,e,hy⟩:=h;exact⟨y,e,k y hy⟩
def Rt.call [Inhabited β](h:Rt (f x) P)(k:∀y,P y→Rt (K y) Q):Rt (c9 f x K) Q:=by
 obtain⟨y,e,hy⟩:=h
 unfold c9
 rw[zov e,e]
 exact k y hy
def Rt.box (fv:∀x y,f x=some y→f' x=y)(h:Rt (f x) P)(k:∀y,P y→Rt (K y) Q):Rt (CC f f' x K) Q:=by
 obtain⟨y,e,hy⟩:=h
 unfold CC
 rw[fv _ _ e,e]
 exact k y hy
def Rt.val [Inhabited β](h:Rt (f x) P)(k:∀y,P y→f x=some y→Rt (K y) Q):Rt (bn (zog f x) K) Q:=by
 obtain⟨y,e,hy⟩:=h
 unfold bn
 rw[zov e]
 exact k y hy e
def Rt.all {l:List Bool}{z:Option γ}(h:kL l=true)(k:Rt z Q):Rt (bif kL l then z else none) Q:=by rw[h];exact k
def Rt.bif {c:Bool}{a b:Option γ}(h1:c=true→Rt a Q)(h2:c=false→Rt b Q):Rt (bif c then a else b) Q:=by cases c;exact h2 rfl;exact h1 rfl
def Rt.loop {X Y:Type}{r:X→Option (X⊕Y)}{z:X}{y0:Y}{P:Y→Prop}{K:Y→Option γ}(h:∃y,Comes r z y∧P y)(k:∀y,P y→Rt (K y) Q):Rt (g8 r y0 z K) Q:=by
 obtain⟨y,c,hy⟩:=h
 unfold g8
 rw[cb c,cv c]
 exact k y hy
def Rt.sum {X Y:Type}{s:X⊕Y}{F:X→Option γ}{G:Y→Option γ}(h1:∀y,s = .inl y→Rt (F y) Q)(h2:∀y,s = .inr y→Rt (G y) Q):Rt (sumC s F G) Q:=by cases s;exact h1 _ rfl;exact h2 _ rfl
def DQ {X Y:Type}{r:X→Option (X⊕Y)}{n:Nat}{I:Nat→X→Prop}{P:Y→Prop}(hs:∀i x,i<n→I i x→(∃x',r x=some (.inl x')∧I (i+1) x')∨∃y,r x=some (.inr y)∧P y)
  (he:∀x,I n x→∃y,r x=some (.inr y)∧P y):∀i x,i≤n→I i x→∃y,Comes r x y∧P y:=by
 have main:∀d i x,i+d=n→I i x→∃y,Comes r x y∧P y:=by
  intro d
  induction d with
  |zero=>intro i x hi h;obtain⟨y,e,hy⟩:=he x (by rw[←show i=n by omega];exact h);exact⟨y,.out e,hy⟩
  |succ d ih=>
   intro i x hi h
   rcases hs i x (by omega) h with⟨x',e,h'⟩|⟨y,e,hy⟩
   ·obtain⟨y,c,hy⟩:=ih (i+1) x' (by omega) h';exact⟨y,.again e c,hy⟩
   ·exact⟨y,.out e,hy⟩
 exact fun i x hi h=>main (n-i) i x (by omega) h
end
def PkI (n:Int)(p:Nat)(y:Int×dj.D×Unit):Prop:=0≤y.1∧(1≤n→y.1<n)∧(n<1→y.1=0)∧w9 y.2.1 p
def AV {r:dj.D}{p:Nat}(I:w9 r p)(hp:p≤1000000000)(n:Int):Rt (m5 (r,n)) (PkI n (p+1)):=by
 obtain⟨k,r',e,h⟩:=TZ I hp n
 exact⟨_,e,h⟩
def of_rt {r:dj.D}{p:Nat}(I:w9 r p)(hp:p≤1000000000){l:List (List UInt8)}(hl:l ≠ []):Rt (KI (r,l)) (fun y=>y.1∈l∧w9 y.2.1 (p+1)):=by
 unfold KI
 refine Rt.val (AV I hp (l.length:Int)) fun y hy e=>?_
 have:0<l.length:=List.length_pos_iff.2 hl
 obtain⟨h0,h1,_,J⟩:=hy
 have h1:=h1 (by omega)
 refine Rt.all (by dsimp only;rw[zl86 h0,zl86 h1,e];rfl) (Rt.ok ⟨?_,J⟩)
 show l.getD y.1.toNat []∈l
 rw[getD_eq _ _ _ (by omega)]
 exact zl96 _
def adq {r:dj.D}{p:Nat}(I:w9 r p){n:Nat}(hp:p+n≤1000000000):Rt (Iu (r,(n:Int))) (fun y=>y.1.length=n∧w9 y.2.1 (p+n)):=by
 unfold Iu
 refine Rt.loop (P:=fun y=>y.2.2.length=n∧w9 y.2.1 (p+n)) (DQ (n:=n) (I:=fun i x=>∃r ls,x=(((i:Int),(),(),(n:Int)),r,ls)∧ls.length=i∧w9 r (p+i)) ?_ ?_ 0 _ (lB _) ⟨r,[],rfl,rfl,I⟩) fun y hy=>Rt.ok ⟨by rw[Ut];exact hy.1,hy.2⟩
 ·rintro i _ hi ⟨r,ls,rfl,hl,I⟩
  obtain⟨k,r',e,h0,h1,_,J⟩:=TZ I (by omega) 8
  refine .inl ⟨_,?_,r',ls ++ [((UInt8.toNat (List.getD [(97:UInt8),98,99,100,101,102,103,104] (Int.toNat k) 0):Nat):Int)],rfl,by simp[hl],J⟩
  have v:=zov e
  have d1:decide (ls.length+1≤eV)=true:=by unfold eV;exact zdt
  simp only[Q7,bn,e,v,qu,zl86 h0,zl86 (show k<(((8:Nat):Int)) from h1 (by omega)),d1,zU,zl92,dW,gl hi,zw (i:=i)]
 ·rintro _ ⟨r,ls,rfl,hl,I⟩
  exact⟨((),r,ls),by simp[Q7,ia],hl,I⟩
def w9.up {r:dj.D}{p q:Nat}(I:w9 r p)(h:p≤q):w9 r q:=⟨I.len,I.GC,I.p0,by have:=I.p1;omega⟩
structure EvI (e:di.D):Prop where
 at0:0≤e.2.1
 at1:e.2.1≤1000000
 nu0:0≤e.2.2.1
 nu1:e.2.2.1≤70000
 nam:e.2.2.2.1.length≤1048576
 txt:e.2.2.2.2.1.length≤1000
structure EvW (w:fk.D):Prop where
 fT:w.1.2.2.2.1.2.1.length≤1000
 nam:∀x∈w.1.2.2.2.1.2.1,x.2.1.length≤1048576
 Ax:w.2.2.1.length≤1000000
section
variable {r:dj.D} {p:Nat} {w:fk.D} {e:di.D} {name:List UInt8} {who a k:Int}
def ev0 (I:w9 r p)(hp:p≤900000000)(W:EvW w):Rt (q14 (((),(),(),0),r,w,e)) (fun y=>∃a r',y=(((),(),(),a),r',w,e)∧(0≤a∧a≤1000000)∧w9 r' (p+2)):=by
 have hr:=W.Ax
 unfold q14
 refine Rt.val (AV I (by omega) 2) fun y hy e1=>?_
 dsimp only
 refine Rt.all (by rw[e1];simp[zU,qu]) (Rt.bif (fun hc=>?_) fun _=>Rt.ok ⟨_,_,rfl,by omega,?_⟩)
 ·have hl:((w.2.2.1.length:Nat):Int)>0:=by
   cases h:decide (((w.2.2.1.length:Nat):Int)>0) with
   |true=>exact zl79 h
   |false=>rw[h] at hc;cases hc
  rw[zl86 hl]
  refine Rt.call (AV hy.2.2.2 (by omega) _) fun z hz=>Rt.ok ⟨_,_,rfl,⟨hz.1,?_⟩,hz.2.2.2⟩
  have:=hz.2.1 (by omega)
  omega
 ·cases decide (((w.2.2.1.length:Nat):Int)>0)
  ·exact I.up (by omega)
  ·exact hy.2.2.2.up (by omega)
def ev2 (I:w9 r p)(hp:p≤950000000)(W:EvW w)(hn:name.length≤1048576):∃y,Comes OM (((0:Int),(),who,(),(),name,a),r,w,e) y∧∃n' r',y=(((),(),who,n',a,()),r',e,w)∧n'.length≤1048576∧w9 r' (p+1000):=by
 have hi:=W.fT
 refine DQ (n:=w.1.2.2.2.1.2.1.length) (I:=fun i x=>∃n' r',x=(((i:Int),(),who,(),(),n',a),r',w,e)∧n'.length≤1048576∧w9 r' (p+i)) ?_ ?_ 0 _ (lB _) ⟨name,r,rfl,hn,I⟩
 ·rintro i _ hi ⟨n',r',rfl,hn',J⟩
  obtain⟨k,q,e1,h0,h1,_,J'⟩:=TZ J (by omega) 2
  have v:=zov e1
  have hm:=W.nam _ (zl96 hi)
  simp only[OM,bn,Cj,zog,e1,qu,gl hi,g0,zU,zl92,dW,zl94,getD_eq _ _ _ hi,zw (i:=i),zl99]
  have hq:w9 (bif w.1.2.2.2.1.2.1[i].1==Int.tmod who 2 then q else r') (p+(i+1)):=by
   cases w.1.2.2.2.1.2.1[i].1==Int.tmod who 2
   ·exact J.up (by omega)
   ·exact J'
  left
  cases (bif w.1.2.2.2.1.2.1[i].1==Int.tmod who 2 then k==0 else false)
  ·exact⟨_,rfl,_,_,rfl,hn',hq⟩
  ·exact⟨_,rfl,_,_,rfl,hm,hq⟩
 ·rintro _ ⟨n',r',rfl,hn',J⟩
  exact⟨_,by simp[OM,ia],n',r',rfl,hn',J.up (by omega)⟩
def ev1 (I:w9 r p)(hp:p≤900000000)(W:EvW w)(hn:name.length≤1048576):Rt (q15 (((),who,(),(),name,a),r,w,e)) (fun y=>∃n' r',y=(((),(),who,n',a,()),r',e,w)∧n'.length≤1048576∧w9 r' (p+1001)):=by
 unfold q15
 refine Rt.call (AV I (by omega) 3) fun y hy=>Rt.bif (fun _=>?_) fun _=>Rt.ok ⟨_,_,rfl,hn,hy.2.2.2.up (by omega)⟩
 refine Rt.loop (ev2 hy.2.2.2 (by omega) W hn) fun z hz=>?_
 obtain⟨n',r',rfl,h1,h2⟩:=hz
 exact Rt.ok ⟨_,_,rfl,h1,h2⟩
def ev3 (I:w9 r p)(hp:p≤900000000)(h0:0≤who)(h4:who<4):Rt (q16 (((),(),who,name,a,()),r,e,w)) (fun y=>(∃e' r',y = .inl ((),r',e')∧EvI e'∧w9 r' (p+3))∨∃r',y = .inr (((),(),name,who,a),r',e)∧w9 r' (p+3)):=by
 unfold q16
 refine Rt.all ?_ (Rt.bif (fun _=>?_) fun _=>Rt.ok (.inr ⟨_,rfl,I.up (by omega)⟩))
 ·dsimp only
  rw[zl86 h0]
  cases decide (who<((w.2.1.length:Nat):Int))<;>simp[zU]
 refine Rt.call (AV I (by omega) 3) fun y hy=>Rt.bif (fun _=>?_) fun _=>Rt.ok (.inr ⟨_,rfl,hy.2.2.2.up (by omega)⟩)
 refine Rt.val (AV hy.2.2.2 (by omega) 4) fun z hz e1=>?_
 refine Rt.val (AV hz.2.2.2 (by omega) 2) fun u hu e2=>?_
 have z0:=hz.1
 have z1:=hz.2.1 (by omega)
 have ef:∀b:Bool,KG b=some (bif b then 1 else 0,()):=by intro b;cases b<;>rfl
 have ef':∀b:Bool,zog KG b=(bif b then 1 else 0,()):=by intro b;cases b<;>rfl
 have fl:0≤IntKind.wrap .i64 (who*(bif u.1==0 then(1:Int) else 0))∧IntKind.wrap .i64 (who*(bif u.1==0 then(1:Int) else 0))≤1000000:=by
  cases u.1==0
  ·simp[wrap64]
  ·simp only[dW,Int.mul_one];rw[wrap64 (by omega) (by omega)];omega
 refine Rt.all ?_ (Rt.ok (.inl ⟨_,_,rfl,?_,hu.2.2.2⟩))
 ·simp only[e1,e2,ef,qu,zl86 z0,zl86 (show z.1<(((4:Nat):Int)) from z1),zU,zl92]
 ·simp only[ef']
  exact⟨fl.1,fl.2,by simp,by simp,by simp,by simp⟩
end
section
variable {r:dj.D} {p:Nat} {w:fk.D} {e:di.D} {name:List UInt8} {who a k:Int}
def ev4:Rt (q17 (((),(),name,who,a,k),r,e)) (fun y=>∃v,y=((v,(),(),name,who,a,k),r,e)):=by
 unfold q17
 repeat' refine Rt.bif (fun _=>?_) fun _=>?_
 all_goals exact Rt.ok ⟨_,rfl⟩
def ev5:Rt (q18 (((),name,who,(),a,k),r,e)) (fun y=>∃v,y=((v,(),name,who,(),a,k),r,e)):=by
 unfold q18
 repeat' refine Rt.bif (fun _=>?_) fun _=>?_
 all_goals exact Rt.ok ⟨_,rfl⟩
def ev6:Rt (q19 (((),(),a,name,k),r,e)) (fun y=>∃v,y=((v,(),(),a,name,k),r,e)):=by
 unfold q19
 repeat' refine Rt.bif (fun _=>?_) fun _=>?_
 all_goals exact Rt.ok ⟨_,rfl⟩
def ev7:Rt (q20 (((),(),a,name,k),r,e)) (fun y=>∃v,y=((v,(),(),a,name,k),r,e)):=by
 unfold q20
 repeat' refine Rt.bif (fun _=>?_) fun _=>?_
 all_goals exact Rt.ok ⟨_,rfl⟩
def ev8:Rt (q21 (((),a,k),r,e)) (fun y=>∃v,y=((v,(),a,k),r,e)):=by
 unfold q21
 repeat' refine Rt.bif (fun _=>?_) fun _=>?_
 all_goals exact Rt.ok ⟨_,rfl⟩
def ev9:Rt (q22 (((),a,k),r,e)) (fun y=>∃v,y=((v,(),a),r,e)):=by
 unfold q22
 repeat' refine Rt.bif (fun _=>?_) fun _=>?_
 all_goals exact Rt.ok ⟨_,rfl⟩
def Eo {b:Bool}{n:Int}{text:List UInt8}(h:0≤a∧a≤1000000)(hn:name.length≤1048576)(n0:0≤n:=by omega)(n1:n≤70000:=by omega)(ht:text.length≤1000:=by simp):EvI (k,a,n,name,text,b,()):=⟨h.1,h.2,n0,n1,hn,ht⟩
def pk {n:Int}{y:Int×dj.D×Unit}(h:PkI n p y)(h1:1≤n:=by omega):0≤y.1∧y.1<n:=⟨h.1,h.2.1 h1⟩
def HY:([]:List UInt8).length≤1048576:=lB _
def aen (I:w9 r p)(hp:p≤800000000)(W:EvW w):Rt (q81 (r,w)) (fun y=>EvI y.1∧w9 y.2.1 (p+2000)):=by
 unfold q81
 refine Rt.box q14_v (ev0 I (by omega) W) ?_
 rintro _ ⟨a,r,rfl,ha,I⟩
 refine Rt.call (of_rt I (by omega) (by simp)) fun y hy=>?_
 obtain⟨name,r,u⟩:=y
 obtain⟨hn,I⟩:=hy
 have hn:name.length≤1048576:=by simp at hn;rcases hn with rfl|rfl|rfl<;>simp
 refine Rt.call (AV I (by omega) 4) fun y hy=>?_
 obtain⟨w0,w4⟩:=pk hy
 refine Rt.box q15_v (ev1 hy.2.2.2 (by omega) W hn) ?_
 rintro _ ⟨name,r,rfl,hn,I⟩
 refine Rt.box q16_v (ev3 I (by omega) w0 w4) ?_
 rintro _ (⟨e',r,rfl,h1,h2⟩|⟨r,rfl,I⟩)
 ·exact Rt.ok ⟨h1,h2.up (by omega)⟩
 refine Rt.call (AV I (by omega) 40) fun q hq=>?_
 have I:=hq.2.2.2
 refine Rt.box q17_v ev4 ?_
 rintro _ ⟨_,rfl⟩
 refine Rt.bif (fun _=>?_) fun _=>Rt.bif (fun _=>?_) fun _=>?_
 ·refine Rt.val (AV I (by omega) 2) fun y1 h1 e1=>?_
  refine Rt.val (AV h1.2.2.2 (by omega) 30) fun y2 h2 e2=>?_
  refine Rt.val (AV h2.2.2.2 (by omega) 90) fun y3 h3 e3=>?_
  refine Rt.val (AV h3.2.2.2 (by omega) 250) fun y4 h4 e4=>?_
  refine Rt.val (AV h4.2.2.2 (by omega) 3) fun y5 h5 e5=>?_
  obtain⟨a2,b2⟩:=pk h2
  obtain⟨a3,b3⟩:=pk h3
  obtain⟨a4,b4⟩:=pk h4
  obtain⟨a5,b5⟩:=pk h5
  obtain⟨n,hn0,hn1⟩:∃n:Nat,List.getD [IntKind.wrap .i64 (1+y2.1),IntKind.wrap .i64 (1+y3.1),IntKind.wrap .i64 (1+y4.1)] (Int.toNat y5.1) 0=(n:Int)∧n≤250:=by
   rw[wrap64 (by omega) (by omega),wrap64 (by omega) (by omega),wrap64 (by omega) (by omega)]
   obtain h|h|h:Int.toNat y5.1=0∨Int.toNat y5.1=1∨Int.toNat y5.1=2:=by omega
   ·exact⟨(1+y2.1).toNat,by rw[h];simp;omega,by omega⟩
   ·exact⟨(1+y3.1).toNat,by rw[h];simp;omega,by omega⟩
   ·exact⟨(1+y4.1).toNat,by rw[h];simp;omega,by omega⟩
  dsimp only
  rw[hn0]
  refine Rt.val (adq h5.2.2.2 (by omega)) fun y6 h6 e6=>?_
  dsimp only at e1
  refine Rt.all (by simp only[e1,e2,e3,e4,e5,e6,qu,zl86 a5,zl86 (show y5.1<((3:Nat):Int) from b5),zU,zl92]) (Rt.ok ⟨Eo ?_ hn (ht:=by rw[h6.1];omega),h6.2.up (by omega)⟩)
  have:=pk h1;omega
 ·refine Rt.call (AV I (by omega) 2) fun y h=>Rt.ok ⟨Eo ?_ hn,h.2.2.2.up (by omega)⟩
  have:=pk h;omega
 refine Rt.box q18_v ev5 ?_
 rintro _ ⟨_,rfl⟩
 refine Rt.bif (fun _=>Rt.ok ⟨Eo (by dsimp only;omega) hn,I.up (by omega)⟩) fun _=>Rt.bif (fun _=>?_) fun _=>Rt.bif (fun _=>?_) fun _=>?_
 ·refine Rt.call (AV I (by omega) 4) fun y h=>Rt.ok ⟨Eo ?_ HY,h.2.2.2.up (by omega)⟩
  have:=pk h;omega
 ·refine Rt.call (AV I (by omega) 4) fun y h=>Rt.ok ⟨Eo ?_ HY,h.2.2.2.up (by omega)⟩
  have:=pk h;omega
 refine Rt.box q19_v ev6 ?_
 rintro _ ⟨_,rfl⟩
 refine Rt.bif (fun _=>Rt.ok ⟨Eo (by omega) HY,I.up (by omega)⟩) fun _=>?_
 refine Rt.box q20_v ev7 ?_
 rintro _ ⟨_,rfl⟩
 refine Rt.bif (fun _=>?_) fun _=>Rt.bif (fun _=>Rt.ok ⟨Eo ha HY,I.up (by omega)⟩) fun _=>Rt.bif (fun _=>?_) fun _=>Rt.bif (fun _=>?_) fun _=>?_
 ·refine Rt.call (AV I (by omega) 4) fun y h=>Rt.ok ⟨Eo ?_ HY,h.2.2.2.up (by omega)⟩
  have:=pk h;omega
 ·refine Rt.val (AV I (by omega) 256) fun y1 h1 e1=>?_
  refine Rt.val (AV h1.2.2.2 (by omega) 256) fun y2 h2 e2=>?_
  have:=pk h1
  have:=pk h2
  dsimp only at e1
  refine Rt.all (by simp only[e1,e2,qu,zU,zl92]) (Rt.ok ⟨?_,h2.2.2.2.up (by omega)⟩)
  rw[wrap64 (n:=y1.1*256) (by omega) (by omega),wrap64 (by omega) (by omega)]
  exact Eo ha HY
 ·refine Rt.val (AV I (by omega) 2) fun y1 h1 e1=>?_
  refine Rt.val (AV h1.2.2.2 (by omega) 40) fun y2 h2 e2=>?_
  refine Rt.val (AV h2.2.2.2 (by omega) 3) fun y3 h3 e3=>?_
  have q1:=pk h1
  obtain⟨a2,b2⟩:=pk h2
  obtain⟨a3,b3⟩:=pk h3
  have hb:0≤List.getD [(0:Int),y2.1,9999] (Int.toNat y3.1) 0∧List.getD [(0:Int),y2.1,9999] (Int.toNat y3.1) 0≤70000:=by
   obtain h|h|h:Int.toNat y3.1=0∨Int.toNat y3.1=1∨Int.toNat y3.1=2:=by omega
   all_goals rw[h];simp;try omega
  dsimp only at e1
  refine Rt.all (by simp only[e1,e2,e3,qu,zl86 a3,zl86 (show y3.1<((3:Nat):Int) from b3),zU,zl92]) ?_
  refine Rt.call (AV h3.2.2.2 (by omega) 3) fun y4 h4=>Rt.bif (fun _=>?_) fun _=>Rt.ok ⟨Eo (by omega) hn hb.1 hb.2,h4.2.2.2.up (by omega)⟩
  refine Rt.val (AV h4.2.2.2 (by omega) 90) fun y5 h5 e5=>?_
  obtain⟨a5,b5⟩:=pk h5
  obtain⟨n,hn0⟩:=Int.eq_ofNat_of_zero_le (show 0≤1+y5.1 by omega)
  rw[wrap64 (by omega) (by omega),hn0]
  refine Rt.val (adq h5.2.2.2 (by omega)) fun y6 h6 e6=>?_
  exact Rt.all (by simp only[e5,e6,qu,zU,zl92]) (Rt.ok ⟨Eo (by omega) hn hb.1 hb.2 (by rw[h6.1];omega),h6.2.up (by omega)⟩)
 refine Rt.box q21_v ev8 ?_
 rintro _ ⟨_,rfl⟩
 refine Rt.bif (fun _=>Rt.ok ⟨Eo (by omega) HY,I.up (by omega)⟩) fun _=>?_
 refine Rt.box q22_v ev9 ?_
 rintro _ ⟨_,rfl⟩
 exact Rt.bif (fun _=>Rt.ok ⟨Eo ha HY,I.up (by omega)⟩) fun _=>Rt.ok ⟨Eo ha HY,I.up (by omega)⟩
end
def RR {w:eL.D}(h:El w=true):(0≤w.1∧w.1≤6)∧(0≤w.2.1∧w.2.1≤99999)∧(1≤w.2.2.1∧w.2.2.1≤99999)∧(0≤w.2.2.2.1∧w.2.2.2.1≤99999)∧(0≤w.2.2.2.2.1∧w.2.2.2.2.1≤99999)∧w.2.2.2.2.2.1.length≤6∧w.2.2.2.2.2.2.1.length≤80:=by
 unfold El at h
 simp only[bB] at h
 obtain⟨⟨⟨⟨⟨h1,h2⟩,h3⟩,h4⟩,h5⟩,h6⟩:=h
 have h1:=zl79 h1
 have h2:=zl79 h2
 have h3:=zl79 h3
 have h4:=zl79 h4
 have h5:w.2.2.2.2.2.2.1.length≤80:=by simp at h5;omega
 refine⟨?_,h1,h2,h3,h4,?_,h5⟩
 ·cases e1:w.1==1 with
  |true=>have:=zl78.1 e1;omega
  |false=>
  rw[e1] at h6
  simp only[pO,bB] at h6
  have h6:=h6.2
  cases e6:w.1==6 with
  |true=>have:=zl78.1 e6;omega
  |false=>
  cases e2:w.1==2 with
  |true=>have:=zl78.1 e2;omega
  |false=>
  cases e3:w.1==3 with
  |true=>have:=zl78.1 e3;omega
  |false=>
  cases e4:w.1==4 with
  |true=>have:=zl78.1 e4;omega
  |false=>
  cases e5:w.1==5 with
  |true=>have:=zl78.1 e5;omega
  |false=>rw[e6,e2,e3,e4,e5] at h6;cases h6
 ·cases e1:w.1==1 with
  |true=>rw[e1] at h6;simp only[dW,bB] at h6;exact(Ki _ h6.1).2
  |false=>rw[e1] at h6;simp only[pO,bB,zl78] at h6;rw[h6.1];simp
def HG {n:Int}(h0:0≤n)(h1:n≤9999999):Rt (Aw n) (fun y=>y.1.length≤7):=by
 obtain⟨k,rfl⟩:=Int.eq_ofNat_of_zero_le h0
 exact⟨_,P_ k (by omega),Fj k (by omega)⟩
def akT {w:eL.D}(h:El w=true):Rt (Mg w) (fun y=>y.1.length≤160):=by
 obtain⟨h1,h2,h3,h4,h5,h6,h7⟩:=RR h
 unfold Mg
 refine Rt.val (HG h1.1 (by omega)) fun y1 k1 e1=>?_
 refine Rt.val (HG h2.1 (by omega)) fun y2 k2 e2=>?_
 refine Rt.val (HG (show 0≤w.2.2.1 by omega) (by omega)) fun y3 k3 e3=>?_
 refine Rt.val (HG h4.1 (by omega)) fun y4 k4 e4=>?_
 refine Rt.val (HG h5.1 (by omega)) fun y5 k5 e5=>?_
 refine Rt.all ?_ (Rt.ok ?_)
 ·simp[e1,e2,e3,e4,e5,qu,zU,eV]
  omega
 ·simp only[eY,zl6,rA]
  omega
def sum_rt {t:List UInt8}(ht:t.length≤1048576):Rt (K5 t) (fun y=>y.1.length≤7):=by
 unfold K5
 refine Rt.loop (P:=fun y=>0≤y.1∧y.1≤1000003) (DQ (n:=t.length) (I:=fun i x=>∃n:Int,x=(((i:Int),t,n),())∧0≤n∧n≤1000003) ?_ ?_ 0 _ (lB _) ⟨1,rfl,by omega⟩) fun y hy=>?_
 ·rintro i _ hi ⟨n,rfl,h0,h1⟩
  have hb:(t.getD i 0).toNat<256:=UInt8.toNat_lt _
  have w1:IntKind.wrap .i64 (n*31)=n*31:=wrap64 (by omega) (by omega)
  have w2:IntKind.wrap .i64 (((t.getD i 0).toNat:Nat):Int)=(((t.getD i 0).toNat:Nat):Int):=wrap64 (by omega) (by omega)
  have w3:IntKind.wrap .i64 (n*31+(((t.getD i 0).toNat:Nat):Int))=n*31+(((t.getD i 0).toNat:Nat):Int):=wrap64 (by omega) (by omega)
  have w4:IntKind.wrap .i64 (n*31+(((t.getD i 0).toNat:Nat):Int)+7)=n*31+(((t.getD i 0).toNat:Nat):Int)+7:=wrap64 (by omega) (by omega)
  obtain⟨m0,m1⟩:=Ll (show 0≤n*31+(((t.getD i 0).toNat:Nat):Int)+7 by omega) (show 1≤(1000003:Int) by omega)
  exact .inl ⟨_,by simp only[QW,gl hi,g0,zl94,zU,zl92,dW,w1,w2,w3,w4,zw (i:=i)],_,rfl,m0,by omega⟩
 ·rintro _ ⟨n,rfl,h⟩
  exact⟨(n,()),by simp[QW],h⟩
 refine Rt.call (HG hy.1 (by omega)) fun z hz=>?_
 refine Rt.loop (P:=fun y=>y.1.length≤7) (DQ (n:=7) (I:=fun i x=>∃s,x=(s,())∧i≤s.length∧s.length≤7) ?_ ?_ 0 _ (lB _) ⟨z.1,rfl,lB _,hz⟩) fun y hy=>Rt.ok hy
 ·rintro i _ hi ⟨s,rfl,h1,h2⟩
  by_cases h7:s.length=7
  ·exact .inr ⟨(s,()),by simp[OJ,h7],h2⟩
  ·have d1:decide ((s.length:Int)<7)=true:=zdt
   have d2:decide (1+s.length≤eV)=true:=zl86 (by unfold eV;omega)
   exact .inl ⟨(48::s,()),by simp only[OJ,d1,d2,zU,dW];rfl,_,rfl,by simp;omega,by simp;omega⟩
 ·rintro _ ⟨s,rfl,h1,h2⟩
  have h7:s.length=7:=by omega
  exact⟨(s,()),by simp[OJ,h7],h2⟩
def adz {w:eL.D}(hn:w.2.2.2.2.2.1.length≤9999999):Rt (Iq w) (fun y=>y.1.length≤200):=by
 have a:=O6 w hn
 unfold Iq
 refine Rt.call (P:=fun y=>y.1=El w) ⟨_,a,rfl⟩ fun y hy=>Rt.bif (fun _=>Rt.ok (by simp)) fun hc=>?_
 rw[hy] at hc
 have hw:El w=true:=by simpa using hc
 refine Rt.call (akT hw) fun z hz=>Rt.val (sum_rt (by omega)) fun u hu e=>?_
 refine Rt.all ?_ (Rt.ok ?_)
 ·simp only[e,qu,zU,eV,Bool.and_true];exact zdt
 ·simp only[eY];omega
def aeq {s:List UInt8}{a:Nat}(b:Int)(hs:s.length≤1048576):Rt (Cz (s,(a:Int),b)) (fun y=>y.1 = -1∨((a:Int)≤y.1∧y.1<s.length)):=by
 unfold Cz
 by_cases ha:a<s.length
 ·refine Rt.loop (P:=fun y=>∀z,y = .inl z→(a:Int)≤z.1∧z.1<(s.length:Int)) (DQ (n:=s.length) (I:=fun i x=>x=(((i:Int),b,s),())∧a≤i) ?_ ?_ a _ (by omega) ⟨rfl,bA _⟩) fun y hy=>Rt.sum (fun z e=>Rt.ok (.inr (hy z e))) fun _ _=>Rt.ok (.inl rfl)
  ·rintro i _ hi ⟨rfl,h⟩
   simp only[F9,gl hi,g0,zl94,zU,zl92,dW,zw (i:=i)]
   cases (((s.getD i 0).toNat:Nat):Int)==b
   ·exact .inl ⟨_,rfl,rfl,by omega⟩
   ·exact .inr ⟨_,rfl,by rintro _ ⟨⟩;exact⟨by dsimp only;omega,by dsimp only;omega⟩⟩
  ·rintro _ ⟨rfl,_⟩
   exact⟨.inr ((),()),by simp[F9],by rintro _ ⟨⟩⟩
 ·have h:¬((a:Int)<(s.length:Int)):=by omega
  refine Rt.loop (P:=fun y=>y = .inr ((),())) ⟨.inr ((),()),.out (by simp[F9,h]),rfl⟩ fun y hy=>?_
  subst hy
  exact Rt.ok (.inl rfl)
def akP {t:List UInt8}(ht:t.length≤1048576):Rt (q72 t) (fun y=>(y.1.2=true→El y.1.1=true)):=by
 unfold q72
 refine Rt.call (aeq (a:=7) 58 ht) fun y hy=>Rt.bif (fun _=>Rt.ok (by intro h;cases h)) fun hc=>?_
 have h0:7≤y.1∧y.1<t.length:=by
  rcases hy with h|h
  ·rw[h] at hc;cases hc
  ·exact h
 obtain⟨k,hk⟩:=Int.eq_ofNat_of_zero_le (show 0≤y.1 by omega)
 obtain⟨l,e1,hl⟩:=Xm (List.take (Int.toNat (y.1-7)) (List.drop (Int.toNat 7) t)) (by simp;omega)
 refine Rt.val (P:=fun z=>z=(l,())) ⟨_,e1,rfl⟩ fun z hz e1=>?_
 subst hz
 refine Rt.all ?_ (Rt.bif (fun _=>Rt.ok (by intro h;cases h)) fun h6=>?_)
 ·rw[e1];simp[qu,zU];omega
 have h6:l.length=6:=by simp at h6;omega
 have nm:∀i:Nat,i<6→Rt (AF (l.getD i [])) (fun _=>True):=by
  intro i hi
  have:l.getD i []∈l:=by rw[getD_eq _ _ _ (by omega)];exact zl96 _
  have:=hl _ this
  rw[zl3,zl4] at this
  exact⟨_,I4 _ (by omega),trivial⟩
 refine Rt.val (nm 4 (by omega)) fun y1 _ e2=>?_
 refine Rt.val (nm 3 (by omega)) fun y2 _ e3=>?_
 refine Rt.val (nm 2 (by omega)) fun y3 _ e4=>?_
 refine Rt.val (nm 1 (by omega)) fun y4 _ e5=>?_
 refine Rt.val (nm 0 (by omega)) fun y5 _ e6=>?_
 have wk:IntKind.wrap .i64 (y.1+1)=y.1+1:=wrap64 (by omega) (by omega)
 refine Rt.all ?_ ?_
 ·have e2':AF (l.getD (Int.toNat 4) [])=some y1:=e2
  have e3':AF (l.getD (Int.toNat 3) [])=some y2:=e3
  have e4':AF (l.getD (Int.toNat 2) [])=some y3:=e4
  have e5':AF (l.getD (Int.toNat 1) [])=some y4:=e5
  have e6':AF (l.getD (Int.toNat 0) [])=some y5:=e6
  dsimp only
  simp only[wk,h6,e2',e3',e4',e5',e6',qu,zU]
  simp
  omega
 have h5:(l.getD (Int.toNat 5) []).length≤9999999:=by
  have:l.getD 5 []∈l:=by rw[getD_eq _ _ _ (by omega)];exact zl96 _
  have:=hl _ this
  rw[zl3,zl4] at this
  show(l.getD 5 []).length≤_
  omega
 dsimp only
 rw[wk]
 have a:=O6 (y5.1,y4.1,y3.1,y2.1,y1.1,l.getD (Int.toNat 5) [],List.take (Int.toNat ((t.length:Int)-(y.1+1))) (List.drop (Int.toNat (y.1+1)) t),()) h5
 refine Rt.val (P:=fun z=>z.1=El (y5.1,y4.1,y3.1,y2.1,y1.1,l.getD (Int.toNat 5) [],List.take (Int.toNat ((t.length:Int)-(y.1+1))) (List.drop (Int.toNat (y.1+1)) t),())) ⟨_,a,rfl⟩ fun z hz e7=>?_
 refine Rt.val (adz h5) fun u _ e8=>?_
 refine Rt.all (by simp only[e7,e8,qu,zU,zl99,zl92]) (Rt.bif (fun _=>Rt.ok (by intro h;cases h)) fun hv=>Rt.ok fun _=>?_)
 rw[←hz]
 cases hz1:z.1 with
 |true=>rfl
 |false=>rw[hz1] at hv;cases hv
end Pl
open Go Go.Ab
namespace Pc
def zP (l:List Int):Nat:=l.foldl (fun m x=>m |||2 ^ x.toNat) 0
def Y2 (l:List Int)(x:Int):zP (l ++ [x])=zP l |||2 ^ x.toNat:=by simp[zP,List.foldl_append]
def agU (l:List Int)(j:Nat):∀m:Nat,(l.foldl (fun m x=>m |||2 ^ x.toNat) m).testBit j=(m.testBit j || l.any fun x=>decide (x.toNat=j)):=by
 induction l with
 |nil=>simp
 |cons x l ih=>
  intro m
  rw[List.foldl_cons,ih]
  simp[Nat.testBit_or,Nat.testBit_two_pow,Bool.or_assoc]
def Ol (l:List Int)(j:Nat):(zP l).testBit j=l.any fun x=>decide (x.toNat=j):=by
 rw[zP,agU];simp
def mk_lt (l:List Int)(h:∀x∈l,x<24):∀m:Nat,m<2 ^ 24→l.foldl (fun m x=>m |||2 ^ x.toNat) m<2 ^ 24:=by
 induction l with
 |nil=>intro m hm;exact hm
 |cons x l ih=>
  intro m hm
  rw[List.foldl_cons]
  refine ih (fun y hy=>h y (gZ _ hy)) _ (Nat.or_lt_two_pow hm ?_)
  exact Nat.pow_lt_pow_right (by decide) (by have:=h x me;omega)
def Ok (l:List Int)(h:∀x∈l,x<24):zP l<2 ^ 24:=mk_lt l h 0 (by decide)
def Qu {a:Nat}(ha:a<2 ^ 24):(BitVec.ofInt 32 (a:Int)).toNat=a:=by
 rw[BitVec.ofInt_natCast,BitVec.toNat_ofNat];omega
def wrap32 {n:Nat}(h:n<2 ^ 24):IntKind.wrap .u32 (n:Int)=(n:Int):=by
 simp[IntKind.wrap,IntKind.bits,IntKind.signed];omega
def or32 {a b:Nat}(ha:a<2 ^ 24)(hb:b<2 ^ 24):pZ .or .u32 (a:Int) (b:Int)=((a |||b:Nat):Int):=by
 show IntKind.wrap .u32 (((BitVec.ofInt 32 (a:Int) |||BitVec.ofInt 32 (b:Int)).toNat:Nat):Int)=_
 rw[BitVec.toNat_or,Qu ha,Qu hb,wrap32 (Nat.or_lt_two_pow ha hb)]
def and32 {a b:Nat}(ha:a<2 ^ 24)(hb:b<2 ^ 24):pZ .and .u32 (a:Int) (b:Int)=((a &&& b:Nat):Int):=by
 show IntKind.wrap .u32 (((BitVec.ofInt 32 (a:Int) &&& BitVec.ofInt 32 (b:Int)).toNat:Nat):Int)=_
 rw[BitVec.toNat_and,Qu ha,Qu hb,wrap32 (Nat.and_lt_two_pow _ hb)]
def shl32 {n:Int}(h:0≤n)(h':n<24):IntKind.wrap .u32 ((1:Int)*(2:Int) ^ Min.min (Int.toNat n) (IntKind.bits .u32))=((2 ^ n.toNat:Nat):Int):=by
 obtain⟨k,rfl⟩:∃k:Nat,n=k:=⟨n.toNat,by omega⟩
 have hk:k<24:=by omega
 have hm:min k 32=k:=by omega
 have h2:2 ^ k<2 ^ 24:=Nat.pow_lt_pow_right (by decide) hk
 have e:(1:Int)*(2:Int) ^ Min.min (Int.toNat k) (IntKind.bits .u32)=((2 ^ k:Nat):Int):=by
  simp[IntKind.bits,hm]
 rw[e,wrap32 h2];simp
def pow24 {n:Int}(h':n<24):2 ^ n.toNat<2 ^ 24:=Nat.pow_lt_pow_right (by decide) (by omega)
def afz (row:List Int)(hl:row.length≤4611686018427387904)(h:∀x∈row,0≤x∧x<24):JB row=some ((zP row:Int),()):=by
 have hc:Comes OK (((0:Int),(0:Int),row,(row.length:Int)),()) ((zP row:Int),()):=by
  refine Bb (st:=fun i=>(((i:Int),(zP (row.take i):Int),row,(row.length:Int)),())) (n:=row.length) ?_ ?_ 0 (lB _)
  ·intro i hi
   have h0:=h row[i] (by simp)
   have h3:=AY (i:=i) (by omega)
   have e:zP (row.take (i+1))=zP (row.take i) |||2 ^ (row[i]).toNat:=by rw[zl88 hi,Y2]
   have h4:=shl32 h0.1 h0.2
   have h5:=or32 (Ok (row.take i) fun x hx=>(h x (List.mem_of_mem_take hx)).2) (pow24 h0.2)
   simp only[OK,getD_eq _ _ _ hi,zl94,h3,h4,h5,e,zU,Int.ofNat_lt,hi,h0.1,zl73,dW,zl111,zl92]
  ·simp[OK]
 simp[JB,cb hc,cv hc,ia]
def adA {i:Nat}(h:i≤4611686018427387904)(h0:0<i):IntKind.wrap .i64 ((i:Int)-1)=((i-1:Nat):Int):=by rw[wrap64]<;>omega
def fN (s:ei.D)(i:Nat):e_.D:=s.2.2.1.getD i ([],[],())
def je (s:ei.D)(i:Nat):Int:=(fN s i).1.getD 0 0
def Ar (s:ei.D)(i:Nat):Bool:=
 CA (fN s i).1 s.1&&decide ((fN s i).1.length≠0)&&decide (((fN s i).2.1.length:Int)=s.2.1)&&(decide (i=0) || decide (je s (i-1)<je s i))
def PK (s:ei.D)(i:Nat)(h:i<s.2.2.1.length):fN s i∈s.2.2.1:=by
 rw[fN,getD_eq _ _ _ h];simp
def aka (s:ei.D)(hs:Fh s)(h1:1≤s.1∧s.1≤24):Comes Lb (((0:Int),()),s) (if ld s.2.2.1.length (Ar s)=true then .inr ((),s) else .inl (false,())):=by
 have CM:∀i,i<s.2.2.1.length→(∀j,j<i→Ar s j=true)→Lb (((i:Int),()),s)=bif Ar s i then some (.inl ((((i+1:Nat):Int),()),s)) else some (.inr (.inl (false,()))):=by
  intro i hi hp
  have hm:=PK s i hi
  have hr:=aj9 (fN s i).1 s.1 (hs.2 _ hm) (by omega) (by omega)
  have hr':zog Il ((fN s i).1,s.1)=(CA (fN s i).1 s.1,()):=by simp only[zog,hr]
  have eA:List.getD s.2.2.1 i ([],[],())=fN s i:=rfl
  have hi':decide ((i:Int)<(s.2.2.1.length:Int))=true:=by simpa using hi
  have h0:decide ((0:Int)≤(i:Int))=true:=by simp
  have w:=AY (i:=i) (by have:=hs.1;omega)
  have d1:(((fN s i).1.length:Int)==0) = !decide ((fN s i).1.length≠0):=by
   by_cases e:(fN s i).1.length=0<;>simp[e]
  have d2:(((fN s i).2.1.length:Int) != s.2.1) = !decide (((fN s i).2.1.length:Int)=s.2.1):=rfl
  have d3:decide ((0:Int)<((fN s i).1.length:Int))=decide ((fN s i).1.length≠0):=by
   by_cases e:(fN s i).1.length=0<;>simp[e];omega
  rcases zl83 i with hz|hz
  ·subst hz
   have g0:decide (((0:Nat):Int)>0)=false:=by decide
   cases hA:CA (fN s 0).1 s.1<;>cases hB:decide ((fN s 0).1.length≠0)<;>cases hC:decide (((fN s 0).2.1.length:Int)=s.2.1)<;>
    simp only[Lb,hi',h0,zl94,eA,hr',hr,d1,d2,d3,g0,hA,hB,hC,w,Ar,zU,qu,dW,pO,zl70,zl98,Bool.and_true,zl74,zl76,zl99,zl92,zl73]
  ·have g0:decide ((i:Int)>0)=true:=by simpa using hz
   have gz:decide (i=0)=false:=by simp;omega
   have w2:=adA (i:=i) (by have:=hs.1;omega) hz
   have eB:List.getD s.2.2.1 (i-1) ([],[],())=fN s (i-1):=rfl
   have hq:=hp (i-1) (by omega)
   simp only[Ar,bB,mS] at hq
   have q1:decide ((0:Int)<((fN s (i-1)).1.length:Int))=true:=by have:=hq.1.1.2;simp;omega
   have q2:decide (((i-1:Nat):Int)<(s.2.2.1.length:Int))=true:=by simp;omega
   have q3:decide ((0:Int)≤((i-1:Nat):Int))=true:=by simp
   have f1:List.getD (fN s i).1 0 0=je s i:=rfl
   have f2:List.getD (fN s (i-1)).1 0 0=je s (i-1):=rfl
   have d4:decide (je s (i-1)≥je s i) = !decide (je s (i-1)<je s i):=by
    by_cases e:je s (i-1)<je s i
    ·have:¬je s i≤je s (i-1):=by omega
     simp[e,this]
    ·have:je s i≤je s (i-1):=by omega
     simp[e,this]
   cases hA:CA (fN s i).1 s.1<;>cases hB:decide ((fN s i).1.length≠0)<;>cases hC:decide (((fN s i).2.1.length:Int)=s.2.1)<;>cases hD:decide (je s (i-1)<je s i)<;>
    simp only[Lb,hi',h0,zl94,Int.toNat_zero,eA,eB,f1,f2,hr',hr,d1,d2,d3,d4,g0,gz,hA,hB,hC,hD,w,w2,q1,q2,q3,Ar,zU,qu,dW,pO,zl70,zl98,Bool.and_true,zl74,zl99,Bool.or_false,zl92,zl73,Int.le_refl]
 refine Cu (fun i=>(((i:Int),()),s)) ?_ ?_ ?_
 ·intro i hi hp h
  rw[CM i hi hp,h];rfl
 ·intro i hi hp h
  rw[CM i hi hp,h];rfl
 ·simp[Lb,ia]
def FN (row:List Int)(n:Int):Bool:= !ld row.length fun j=> !(row.getD j 0==n)
def SW (row:List Int)(n:Int):FN row n=true↔∃j,j<row.length∧row.getD j 0=n:=by
 unfold FN
 cases h:ld row.length fun j=> !(row.getD j 0==n) with
 |true=>
  rw[wv] at h
  simp only[zl70,zl44,false_iff,not_exists,not_and]
  intro j hj e
  have:=h j hj
  simp only[e,zl95,zl70,zl44] at this
 |false=>
  simp only[zl98,true_iff]
  by_cases e:∃j,j<row.length∧row.getD j 0=n
  ·exact e
  ·exfalso
   have:ld row.length (fun j=> !(row.getD j 0==n))=true:=by
    rw[wv];intro j hj
    simp only[zl63,zl89,ne_eq]
    intro e2;exact e ⟨j,hj,e2⟩
   rw[h] at this;cases this
def adi (row:List Int)(n:Int)(h:row.length≤4611686018427387904):EI (row,n)=some (FN row n,()):=by
 have hl:Comes Mu (((0:Int),n,row),()) (if(ld row.length fun j=> !(row.getD j 0==n))=true then .inr ((),()) else .inl (true,())):=by
  refine Cu (fun i=>(((i:Int),n,row),())) ?_ ?_ ?_
  ·intro i hi _ hp
   have hi':decide ((i:Int)<(row.length:Int))=true:=by simpa using hi
   have h0:decide ((0:Int)≤(i:Int))=true:=by simp
   have hp':(row.getD i 0==n)=false:=by simpa using hp
   simp only[Mu,hi',h0,zl94,hp',AY (i:=i) (by omega),zU,dW,pO,zl92]
  ·intro i hi _ hp
   have hi':decide ((i:Int)<(row.length:Int))=true:=by simpa using hi
   have h0:decide ((0:Int)≤(i:Int))=true:=by simp
   have hp':(row.getD i 0==n)=true:=by simpa using hp
   simp only[Mu,hi',h0,zl94,hp',zU,dW,zl92]
  ·simp[Mu]
 cases hp:(ld row.length fun j=> !(row.getD j 0==n)) with
 |true=>
  rw[hp,bQ rfl] at hl
  simp only[EI,cb hl,cv hl,FN,hp,dW,zl70,ia]
 |false=>
  rw[hp,cT (by simp)] at hl
  simp only[EI,cb hl,cv hl,FN,hp,dW,zl98,ia]
def J1 (s:ei.D)(i k:Nat):Bool:=decide (k=i) || !FN (fN s k).1 (je s i)
def cross (s:ei.D):Bool:=ld s.2.2.1.length fun i=>ld s.2.2.1.length (J1 s i)
def adh (s:ei.D)(hs:Fh s)(i:Nat)(hi:i<s.2.2.1.length)(hne:(fN s i).1.length≠0) :
  Comes MH (((0:Int),(i:Int),()),s) (if ld s.2.2.1.length (J1 s i)=true then .inr (((),(i:Int)),s) else .inl (false,())):=by
 have CM:∀k,k<s.2.2.1.length→MH (((k:Int),(i:Int),()),s)=bif J1 s i k then some (.inl ((((k+1:Nat):Int),(i:Int),()),s)) else some (.inr (.inl (false,()))):=by
  intro k hk
  have hr:=adi (fN s k).1 (je s i) (hs.2 _ (PK s k hk))
  have hr':zog EI ((fN s k).1,je s i)=(FN (fN s k).1 (je s i),()):=by simp only[zog,hr]
  have eA:List.getD s.2.2.1 i ([],[],())=fN s i:=rfl
  have eB:List.getD s.2.2.1 k ([],[],())=fN s k:=rfl
  have f1:List.getD (fN s i).1 0 0=je s i:=rfl
  have hi':decide ((i:Int)<(s.2.2.1.length:Int))=true:=by simpa using hi
  have hk':decide ((k:Int)<(s.2.2.1.length:Int))=true:=by simpa using hk
  have h0:decide ((0:Int)≤(i:Int))=true:=by simp
  have h1:decide ((0:Int)≤(k:Int))=true:=by simp
  have h2:decide ((0:Int)<((fN s i).1.length:Int))=true:=by simp;omega
  have w:=AY (i:=k) (by have:=hs.1;omega)
  have d1:((k:Int) != (i:Int)) = !decide (k=i):=by
   by_cases e:k=i
   ·subst e;simp
   ·have:(k:Int)≠i:=by omega
    simp[e,this]
  cases hA:decide (k=i)<;>cases hB:FN (fN s k).1 (je s i)<;>
   simp only[MH,hi',hk',h0,h1,h2,zl94,Int.toNat_zero,eA,eB,f1,hr,hr',d1,hA,hB,w,J1,zU,qu,dW,pO,zl70,zl98,zl99,Bool.or_false,zl92,Bool.or_self,zl73,Int.le_refl]
 refine Cu (fun k=>(((k:Int),(i:Int),()),s)) ?_ ?_ ?_
 ·intro k hk _ h
  rw[CM k hk,h];rfl
 ·intro k hk _ h
  rw[CM k hk,h];rfl
 ·simp[MH,ia]
def akb (s:ei.D)(hs:Fh s)(hne:∀i,i<s.2.2.1.length→(fN s i).1.length≠0) :
  Comes MG (((0:Int),()),s) (if cross s=true then .inr ((),()) else .inl (false,())):=by
 refine Cu (fun i=>(((i:Int),()),s)) ?_ ?_ ?_
 ·intro i hi _ h
  have hl:=adh s hs i hi (hne i hi)
  rw[h,bQ rfl] at hl
  have hi':decide ((i:Int)<(s.2.2.1.length:Int))=true:=by simpa using hi
  simp only[MG,hi',cb hl,cv hl,dW,ia]
  dsimp only[sumC]
  rw[AY (i:=i) (by have:=hs.1;omega)]
 ·intro i hi _ h
  have hl:=adh s hs i hi (hne i hi)
  rw[h,cT (by simp)] at hl
  have hi':decide ((i:Int)<(s.2.2.1.length:Int))=true:=by simpa using hi
  simp only[MG,hi',cb hl,cv hl,dW,ia]
 ·simp[MG,ia]
def CB (s:ei.D):Bool:=decide (1≤s.1∧s.1≤24)&&decide (1≤s.2.1∧s.2.1≤16)&&ld s.2.2.1.length (Ar s)&&cross s
def SA {s:ei.D}(h:ld s.2.2.1.length (Ar s)=true)(i:Nat)(hi:i<s.2.2.1.length):(fN s i).1.length≠0:=by
 have:=wv.1 h i hi
 simp only[Ar,bB,mS] at this
 exact this.1.1.2
def aj_ (s:ei.D)(hs:Fh s):Gk s=some (CB s,()):=by
 by_cases a1:1≤s.1∧s.1≤24
 case neg=>simp[Gk,zog,AN,zU,qu,a1,CB]
 by_cases a2:1≤s.2.1∧s.2.1≤16
 case neg=>simp[Gk,zog,AN,zU,qu,a1,a2,CB]
 have hl:=aka s hs a1
 cases h1:ld s.2.2.1.length (Ar s) with
 |false=>
  rw[h1,cT (by simp)] at hl
  simp[Gk,zog,AN,zU,qu,a1,a2,CB,cb hl,cv hl,h1]
 |true=>
  rw[h1,bQ rfl] at hl
  have hl2:=akb s hs (SA h1)
  cases h2:cross s with
  |false=>
   rw[h2,cT (by simp)] at hl2
   simp[Gk,zog,AN,zU,qu,a1,a2,CB,cb hl,cv hl,h1,h2]
   dsimp only[sumC]
   simp only[cb hl2,cv hl2,dW]
  |true=>
   rw[h2,bQ rfl] at hl2
   simp[Gk,zog,AN,zU,qu,a1,a2,CB,cb hl,cv hl,h1,h2]
   dsimp only[sumC]
   simp only[cb hl2,cv hl2,dW]
def Uf {row:List Int}{count:Int}(h:CA row count=true)(x:Int)(hx:x∈row):0≤x∧x<24:=by
 simp only[CA,bB,mS] at h
 obtain⟨i,hi,e⟩:=List.mem_iff_getElem.1 hx
 have:=wv.1 h.1 i hi
 simp only[CN,bB,mS,getD_eq _ _ _ hi,e] at this
 omega
def Cb (s:ei.D)(i:Nat):List Int:=(List.range i).map (je s)
def afj (s:ei.D)(i:Nat):Cb s (i+1)=Cb s i ++ [je s i]:=by simp[Cb,List.range_succ]
def P3 {s:ei.D}{i:Nat}(h:Ar s i=true):0≤je s i∧je s i<24:=by
 simp only[Ar,bB,mS] at h
 have hp:0<(fN s i).1.length:=by have:=h.1.1.2;omega
 refine Uf h.1.1.1 _ ?_
 rw[je,getD_eq _ _ _ hp];simp
def X_ {s:ei.D}{i:Nat}(h:∀j,j<i→Ar s j=true):∀x∈Cb s i,x<24:=by
 intro x hx
 simp only[Cb,gG,List.mem_range] at hx
 obtain⟨j,hj,rfl⟩:=hx
 exact(P3 (h j hj)).2
def afw (s:ei.D)(hs:Fh s)(h1:1≤s.1∧s.1≤24) :
  Comes Ir (((0:Int),(0:Int),(),s.2.2.1,(s.2.2.1.length:Int)),s) (if ld s.2.2.1.length (Ar s)=true then .inr ((((zP (Cb s s.2.2.1.length):Nat):Int),()),s) else .inl (false,())):=by
 have CM:∀i,i<s.2.2.1.length→(∀j,j<i→Ar s j=true)→Ir (((i:Int),((zP (Cb s i):Nat):Int),(),s.2.2.1,(s.2.2.1.length:Int)),s)=bif Ar s i then some (.inl ((((i+1:Nat):Int),((zP (Cb s (i+1)):Nat):Int),(),s.2.2.1,(s.2.2.1.length:Int)),s)) else some (.inr (.inl (false,()))):=by
  intro i hi hp
  have hm:=PK s i hi
  have hr:=afu (fN s i).1 s.1 (hs.2 _ hm) (by omega) (by omega)
  have hr':zog Ij ((fN s i).1,s.1)=(CA (fN s i).1 s.1,()):=by simp only[zog,hr]
  have eA:List.getD s.2.2.1 i ([],[],())=fN s i:=rfl
  have hi':decide ((i:Int)<(s.2.2.1.length:Int))=true:=by simpa using hi
  have h0:decide ((0:Int)≤(i:Int))=true:=by simp
  have w:=AY (i:=i) (by have:=hs.1;omega)
  have d1:(((fN s i).1.length:Int)==0) = !decide ((fN s i).1.length≠0):=by
   by_cases e:(fN s i).1.length=0<;>simp[e]
  have d2:(((fN s i).2.1.length:Int) != s.2.1) = !decide (((fN s i).2.1.length:Int)=s.2.1):=rfl
  have d3:decide ((0:Int)<((fN s i).1.length:Int))=decide ((fN s i).1.length≠0):=by
   by_cases e:(fN s i).1.length=0<;>simp[e];omega
  have f1:List.getD (fN s i).1 0 0=je s i:=rfl
  have mk:Ar s i=true→pZ .or .u32 ((zP (Cb s i):Nat):Int) (IntKind.wrap .u32 ((1:Int)*(2:Int) ^ Min.min (Int.toNat (je s i)) (IntKind.bits .u32)))=((zP (Cb s (i+1)):Nat):Int):=by
   intro h
   have:=P3 h
   rw[shl32 this.1 this.2,or32 (Ok _ (X_ hp)) (pow24 this.2),afj,Y2]
  have mk0:Ar s i=true→decide (0≤je s i)=true:=fun h=>zl86 (P3 h).1
  rcases zl83 i with hz|hz
  ·subst hz
   have g0:decide (((0:Nat):Int)>0)=false:=by decide
   cases hA:CA (fN s 0).1 s.1<;>cases hB:decide ((fN s 0).1.length≠0)<;>cases hC:decide (((fN s 0).2.1.length:Int)=s.2.1)
   case true.true.true=>
    have hE:Ar s 0=true:=by simp only[Ar,hA,hB,hC,zl73,zl76,zl92]
    simp only[Ir,hi',h0,zl94,Int.toNat_zero,eA,f1,hr',hr,d1,d2,d3,g0,hA,hB,hC,w,mk hE,mk0 hE,hE,zU,qu,dW,pO,zl70,zl98,Bool.and_true,zl76,zl99,zl92]
   all_goals
    simp only[Ir,hi',h0,zl94,eA,hr',hr,d1,d2,d3,g0,hA,hB,hC,w,Ar,zU,qu,dW,pO,zl70,zl98,Bool.and_true,zl74,zl76,zl99,zl92,zl73]
  ·have g0:decide ((i:Int)>0)=true:=by simpa using hz
   have gz:decide (i=0)=false:=by simp;omega
   have w2:=adA (i:=i) (by have:=hs.1;omega) hz
   have eB:List.getD s.2.2.1 (i-1) ([],[],())=fN s (i-1):=rfl
   have hq:=hp (i-1) (by omega)
   simp only[Ar,bB,mS] at hq
   have q1:decide ((0:Int)<((fN s (i-1)).1.length:Int))=true:=by have:=hq.1.1.2;simp;omega
   have q2:decide (((i-1:Nat):Int)<(s.2.2.1.length:Int))=true:=by simp;omega
   have q3:decide ((0:Int)≤((i-1:Nat):Int))=true:=by simp
   have f2:List.getD (fN s (i-1)).1 0 0=je s (i-1):=rfl
   have d4:decide (je s (i-1)≥je s i) = !decide (je s (i-1)<je s i):=by
    by_cases e:je s (i-1)<je s i
    ·have:¬je s i≤je s (i-1):=by omega
     simp[e,this]
    ·have:je s i≤je s (i-1):=by omega
     simp[e,this]
   cases hA:CA (fN s i).1 s.1<;>cases hB:decide ((fN s i).1.length≠0)<;>cases hC:decide (((fN s i).2.1.length:Int)=s.2.1)<;>cases hD:decide (je s (i-1)<je s i)
   case true.true.true.true=>
    have hE:Ar s i=true:=by simp only[Ar,hA,hB,hC,hD,zl99,zl92]
    simp only[Ir,hi',h0,zl94,Int.toNat_zero,eA,eB,f1,f2,hr',hr,d1,d2,d3,d4,g0,hA,hB,hC,hD,w,w2,q1,q2,q3,mk hE,mk0 hE,hE,zU,qu,dW,pO,zl70,zl98,zl99,zl92,zl73,Int.le_refl]
   all_goals
    simp only[Ir,hi',h0,zl94,Int.toNat_zero,eA,eB,f1,f2,hr',hr,d1,d2,d3,d4,g0,gz,hA,hB,hC,hD,w,w2,q1,q2,q3,Ar,zU,qu,dW,pO,zl70,zl98,Bool.and_true,zl74,zl99,Bool.or_false,zl92,zl73,Int.le_refl]
 have e0:((zP (Cb s 0):Nat):Int)=0:=rfl
 refine e0▸Cu (fun i=>(((i:Int),((zP (Cb s i):Nat):Int),(),s.2.2.1,(s.2.2.1.length:Int)),s)) ?_ ?_ ?_
 ·intro i hi hp h
  rw[CM i hi hp,h];rfl
 ·intro i hi hp h
  rw[CM i hi hp,h];rfl
 ·simp[Ir,ia]
def DP (s:ei.D)(k:Nat):List Int:=(fN s k).1.drop 1
def FZ (s:ei.D)(k:Nat):Bool:=decide (zP (DP s k) &&& zP (Cb s s.2.2.1.length)=0)
def afx (s:ei.D)(hs:Fh s)(ha:ld s.2.2.1.length (Ar s)=true) :
  Comes MD (((0:Int),((zP (Cb s s.2.2.1.length):Nat):Int),s.2.2.1,(s.2.2.1.length:Int)),()) (if ld s.2.2.1.length (FZ s)=true then .inr ((),()) else .inl (false,())):=by
 have CM:∀k,k<s.2.2.1.length→MD (((k:Int),((zP (Cb s s.2.2.1.length):Nat):Int),s.2.2.1,(s.2.2.1.length:Int)),())=bif FZ s k then some (.inl ((((k+1:Nat):Int),((zP (Cb s s.2.2.1.length):Nat):Int),s.2.2.1,(s.2.2.1.length:Int)),())) else some (.inr (.inl (false,()))):=by
  intro k hk
  have hm:=PK s k hk
  have hl:=hs.2 _ hm
  have hq:=wv.1 ha k hk
  simp only[Ar,bB,mS] at hq
  have hne:=hq.1.1.2
  have hmem:∀x∈DP s k,0≤x∧x<24:=fun x hx=>Uf hq.1.1.1 x (List.mem_of_mem_drop hx)
  have hr:=afz (DP s k) (by rw[DP,zl4];omega) hmem
  have hr':zog JB (DP s k)=(((zP (DP s k):Nat):Int),()):=by simp only[zog,hr]
  have eA:List.getD s.2.2.1 k ([],[],())=fN s k:=rfl
  have et:List.take (Int.toNat (((fN s k).1.length:Int)-1)) (List.drop (Int.toNat 1) (fN s k).1)=DP s k:=by
   rw[DP]
   exact zl57 (by simp)
  have hk':decide ((k:Int)<(s.2.2.1.length:Int))=true:=by simpa using hk
  have h0:decide ((0:Int)≤(k:Int))=true:=by simp
  have h1:decide ((1:Int)≤((fN s k).1.length:Int))=true:=by simp;omega
  have w:=AY (i:=k) (by have:=hs.1;omega)
  have ea:=and32 (Ok _ fun x hx=>(hmem x hx).2) (Ok _ (X_ (wv.1 ha)))
  have en:(((zP (DP s k) &&& zP (Cb s s.2.2.1.length):Nat):Int) != 0) = !FZ s k:=by
   unfold FZ
   by_cases e:zP (DP s k) &&& zP (Cb s s.2.2.1.length)=0
   ·rw[e];rfl
   ·rw[zl90 e,zl98,bne_iff_ne];omega
  cases hc:FZ s k<;>
   simp only[MD,hk',h0,h1,zl94,eA,et,hr,hr',ea,en,hc,w,zU,qu,dW,pO,zl70,zl98,zl92,zl73,Int.le_refl]
 refine Cu (fun k=>(((k:Int),((zP (Cb s s.2.2.1.length):Nat):Int),s.2.2.1,(s.2.2.1.length:Int)),())) ?_ ?_ ?_
 ·intro k hk _ h
  rw[CM k hk,h];rfl
 ·intro k hk _ h
  rw[CM k hk,h];rfl
 ·simp[MD,ia]
def AU {f:Nat→Int}{n:Nat}(h:∀i,0<i→i<n→f (i-1)<f i):∀j i,i<j→j<n→f i<f j:=by
 intro j
 induction j with
 |zero=>intro i hi;omega
 |succ j ih=>
  intro i hi hj
  have h1:f j<f (j+1):=h (j+1) (by omega) hj
  by_cases e:i=j
  ·subst e;exact h1
  ·have:=ih i (by omega) (by omega)
   omega
def ajx {row:List Int}{count:Int}(h:CA row count=true)(m:Nat)(hm:0<m)(hl:m<row.length):row.getD 0 0<row.getD m 0:=by
 simp only[CA,bB] at h
 refine AU (f:=fun i=>row.getD i 0) (n:=row.length) ?_ m 0 hm hl
 intro i h0 hi
 have:=wv.1 h.1 i hi
 simp only[CN,bB,rz,mS] at this
 exact this.2.resolve_left (by omega)
def NS {s:ei.D}(h:ld s.2.2.1.length (Ar s)=true):∀j i,i<j→j<s.2.2.1.length→je s i<je s j:=by
 refine AU ?_
 intro i h0 hi
 have:=wv.1 h i hi
 simp only[Ar,bB,rz,mS] at this
 exact this.2.resolve_left (by omega)
def Ug {s:ei.D}(h:ld s.2.2.1.length (Ar s)=true){k:Nat}(hk:k<s.2.2.1.length):CA (fN s k).1 s.1=true:=by
 have:=wv.1 h k hk
 simp only[Ar,bB] at this
 exact this.1.1.1
def Tw {s:ei.D}{k:Nat}{x:Int}:x∈DP s k↔∃m,0<m∧m<(fN s k).1.length∧(fN s k).1.getD m 0=x:=by
 rw[DP,List.mem_iff_getElem]
 constructor
 ·rintro⟨i,hi,e⟩
  rw[zl4] at hi
  refine⟨i+1,by omega,by omega,?_⟩
  rw[getD_eq _ _ _ (by omega:i+1<(fN s k).1.length)]
  rw[List.getElem_drop] at e
  simpa[Nat.add_comm] using e
 ·rintro⟨m,h0,hm,e⟩
  refine⟨m-1,by rw[zl4];omega,?_⟩
  rw[List.getElem_drop]
  rw[getD_eq _ _ _ hm] at e
  have:1+(m-1)=m:=by omega
  simp only[this]
  exact e
def Y0 {s:ei.D}{n:Nat}{x:Int}:x∈Cb s n↔∃i,i<n∧je s i=x:=by simp[Cb]
def Tv {s:ei.D}(ha:ld s.2.2.1.length (Ar s)=true){k:Nat}(hk:k<s.2.2.1.length) :
  FZ s k=true↔∀i,i<s.2.2.1.length→je s i∉DP s k:=by
 have hr:=Ug ha hk
 unfold FZ
 rw[mS]
 constructor
 ·intro h i hi hm
  have h1:(zP (DP s k)).testBit (je s i).toNat=true:=by
   rw[Ol,List.any_eq_true];exact⟨_,hm,by simp⟩
  have h2:(zP (Cb s s.2.2.1.length)).testBit (je s i).toNat=true:=by
   rw[Ol,List.any_eq_true];exact⟨_,Y0.2 ⟨i,hi,rfl⟩,by simp⟩
  have:(zP (DP s k) &&& zP (Cb s s.2.2.1.length)).testBit (je s i).toNat=true:=by rw[Nat.testBit_and,h1,h2];rfl
  rw[h,Nat.zero_testBit] at this;cases this
 ·intro h
  apply Nat.eq_of_testBit_eq
  intro j
  rw[Nat.testBit_and,Nat.zero_testBit,Ol,Ol,zl81]
  cases h1:(DP s k).any fun x=>decide (x.toNat=j) with
  |false=>exact .inl rfl
  |true=>
   refine .inr ?_
   cases h2:(Cb s s.2.2.1.length).any fun x=>decide (x.toNat=j) with
   |false=>rfl
   |true=>
    exfalso
    obtain⟨x,hx,ex⟩:=List.any_eq_true.1 h1
    obtain⟨y,hy,ey⟩:=List.any_eq_true.1 h2
    simp only[mS] at ex ey
    obtain⟨i,hi,rfl⟩:=Y0.1 hy
    have b1:=P3 (wv.1 ha i hi)
    have b2:=Uf hr x (List.mem_of_mem_drop hx)
    have:x=je s i:=by omega
    subst this
    exact h i hi hx
def Xg {s:ei.D}(ha:ld s.2.2.1.length (Ar s)=true):ld s.2.2.1.length (FZ s)=cross s:=by
 have hne:=SA ha
 have key:ld s.2.2.1.length (FZ s)=true↔cross s=true:=by
  rw[wv,cross,wv]
  constructor
  ·intro h i hi
   rw[wv]
   intro k hk
   simp only[J1,rz,mS]
   by_cases e:k=i
   ·exact .inl e
   ·refine .inr ?_
    cases hh:FN (fN s k).1 (je s i) with
    |false=>rfl
    |true=>
     exfalso
     obtain⟨j,hj,ej⟩:=(SW _ _).1 hh
     rcases zl83 j with hz|hz
     ·subst hz
      have e2:je s k=je s i:=ej
      rcases Nat.lt_or_gt_of_ne e with hlt|hlt
      ·have:=NS ha i k hlt hi;omega
      ·have:=NS ha k i hlt hk;omega
     ·exact(Tv ha hk).1 (h k hk) i hi (Tw.2 ⟨j,hz,hj,ej⟩)
  ·intro h k hk
   rw[Tv ha hk]
   intro i hi hm
   obtain⟨m,h0,hml,e⟩:=Tw.1 hm
   have:=wv.1 (h i hi) k hk
   simp only[J1,rz,mS] at this
   rcases this with hki|hn
   ·subst hki
    have:=ajx (Ug ha hk) m h0 hml
    rw[e] at this
    unfold je at this
    omega
   ·have:FN (fN s k).1 (je s i)=true:=(SW _ _).2 ⟨m,hml,e⟩
    rw[this] at hn;cases hn
 cases h1:ld s.2.2.1.length (FZ s)<;>cases h2:cross s
 ·rfl
 ·rw[key.2 h2] at h1;cases h1
 ·rw[key.1 h1] at h2;cases h2
 ·rfl
def afv (s:ei.D)(hs:Fh s):Gh s=some (CB s,()):=by
 by_cases a1:1≤s.1∧s.1≤24
 case neg=>simp[Gh,zog,Bt,zU,qu,a1,CB]
 by_cases a2:1≤s.2.1∧s.2.1≤16
 case neg=>simp[Gh,zog,Bt,zU,qu,a1,a2,CB]
 have hl:=afw s hs a1
 cases h1:ld s.2.2.1.length (Ar s) with
 |false=>
  rw[h1,cT (by simp)] at hl
  simp[Gh,zog,Bt,zU,qu,a1,a2,CB,cb hl,cv hl,h1]
 |true=>
  rw[h1,bQ rfl] at hl
  have hl2:=afx s hs h1
  rw[Xg h1] at hl2
  cases h2:cross s with
  |false=>
   rw[h2,cT (by simp)] at hl2
   simp[Gh,zog,Bt,zU,qu,a1,a2,CB,cb hl,cv hl,h1,h2]
   dsimp only[sumC]
   simp only[cb hl2,cv hl2,dW]
  |true=>
   rw[h2,bQ rfl] at hl2
   simp[Gh,zog,Bt,zU,qu,a1,a2,CB,cb hl,cv hl,h1,h2]
   dsimp only[sumC]
   simp only[cb hl2,cv hl2,dW]
def scan (p:Nat→Bool):Nat→Nat→Nat
 |0,k=>k
 |d+1,k=>if p k=true then scan p d (k+1) else k
def OX (p:Nat→Bool):∀d k,k≤scan p d k∧scan p d k≤k+d∧(∀j,k≤j→j<scan p d k→p j=true)∧(scan p d k<k+d→p (scan p d k)=false)
 |0,k=>⟨bA _,bA _,fun j h1 h2=>by simp only[scan] at h2;omega,fun h=>by simp only[scan] at h;omega⟩
 |d+1,k=>by
  unfold scan
  by_cases h:p k=true
  ·rw[bQ h]
   obtain⟨a,b,c,e⟩:=OX p d (k+1)
   refine⟨by omega,by omega,fun j h1 h2=>?_,fun hh=>e (by omega)⟩
   by_cases ej:j=k
   ·subst ej;exact h
   ·exact c j (by omega) h2
  ·rw[cT h]
   refine⟨bA _,by omega,fun j h1 h2=>by omega,fun _=>by simpa using h⟩
def En {X Y:Type}{r:X→Option (X⊕Y)}(st:Nat→X){n:Nat}(p:Nat→Bool)(yf:Nat→Y)(hs:∀i,i<n→p i=true→r (st i)=some (.inl (st (i+1))))
  (hf:∀i,i<n→p i=false→r (st i)=some (.inr (yf i))) (he:r (st n)=some (.inr (yf n))):Comes r (st 0) (yf (scan p n 0)):=by
 have main:∀d k,k+d=n→Comes r (st k) (yf (scan p d k)):=by
  intro d
  induction d with
  |zero=>intro k hk;have:k=n:=by omega
         subst this;exact .out he
  |succ d ih=>
   intro k hk
   unfold scan
   cases hp:p k with
   |true=>rw[bQ rfl];exact .again (hs k (by omega) hp) (ih (k+1) (by omega))
   |false=>rw[cT (by simp)];exact .out (hf k (by omega) hp)
 exact main n 0 (by omega)
def Et (s:ei.D)(n:Int)(i:Nat):Bool:=decide ((fN s i).1.length=1)&&decide (je s i=n)
def B3 (s:ei.D)(n:Int):Nat:=scan (fun i=> !Et s n i) s.2.2.1.length 0
def Cv (s:ei.D)(n:Int):List UInt8×Bool:=if B3 s n<s.2.2.1.length then((fN s (B3 s n)).2.1,true) else([],false)
def X4 {s:ei.D}{n:Int}(h:B3 s n<s.2.2.1.length):Et s n (B3 s n)=true:=by
 have:=(OX (fun i=> !Et s n i) s.2.2.1.length 0).2.2.2 (by rw[lA];exact h)
 simpa[B3] using this
def afe {s:ei.D}{n:Int}{i:Nat}(_hi:i<s.2.2.1.length)(h:Et s n i=true):B3 s n≤i:=by
 rcases Nat.lt_or_ge i (B3 s n) with hl|hl
 ·have:=(OX (fun i=> !Et s n i) s.2.2.1.length 0).2.2.1 i (lB _) hl
  simp[h] at this
 ·exact hl
def len1 (l:List Int):((l.length:Int)==1)=decide (l.length=1):=by
 by_cases e:l.length=1
 ·rw[e];rfl
 ·have:¬(l.length:Int)=1:=by omega
  rw[zl90 e];simpa using this
def S4 (s:ei.D)(hs:Fh s)(n:Int):q26 (s,n)=some (Cv s n,()):=by
 have CM:∀i,i<s.2.2.1.length→Mz (((i:Int),n,s.2.2.1,(s.2.2.1.length:Int)),())=bif !Et s n i then some (.inl ((((i+1:Nat):Int),n,s.2.2.1,(s.2.2.1.length:Int)),())) else some (.inr (.inl (((fN s i).2.1,true),()))):=by
  intro i hi
  have eA:List.getD s.2.2.1 i ([],[],())=fN s i:=rfl
  have f1:List.getD (fN s i).1 0 0=je s i:=rfl
  have hi':decide ((i:Int)<(s.2.2.1.length:Int))=true:=by simpa using hi
  have h0:decide ((0:Int)≤(i:Int))=true:=by simp
  have w:=AY (i:=i) (by have:=hs.1;omega)
  have d1:=len1 (fN s i).1
  have d2:(je s i==n)=decide (je s i=n):=rfl
  have d3:(!decide ((fN s i).1.length=1) || decide ((0:Int)<((fN s i).1.length:Int)))=true:=by
   by_cases e:(fN s i).1.length=1
   ·simp[e]
   ·simp[e]
  cases hA:decide ((fN s i).1.length=1)<;>cases hB:decide (je s i=n)<;>simp only[hA,zl70,zl98,zl76,zl71] at d3<;>
   simp only[Mz,hi',h0,zl94,Int.toNat_zero,eA,f1,d1,d2,hA,hB,d3,w,Et,zU,dW,pO,zl70,zl98,Bool.and_true,zl74,zl76,zl99,zl92,zl73,Int.le_refl]
 have hl:Comes Mz (((0:Int),n,s.2.2.1,(s.2.2.1.length:Int)),()) (if B3 s n<s.2.2.1.length then .inl (((fN s (B3 s n)).2.1,true),()) else .inr ((),())):=by
  refine En (fun i=>(((i:Int),n,s.2.2.1,(s.2.2.1.length:Int)),())) (fun i=> !Et s n i) (fun i=>if i<s.2.2.1.length then(.inl (((fN s i).2.1,true),()):((List UInt8×Bool)×Unit)⊕(Unit×Unit)) else .inr ((),())) ?_ ?_ ?_
  ·intro i hi h
   simp only[CM i hi];rw[h];rfl
  ·intro i hi h
   simp only[CM i hi];rw[h,bQ hi];rfl
  ·simp[Mz]
 by_cases h:B3 s n<s.2.2.1.length
 ·rw[bQ h] at hl
  simp only[q26,cb hl,cv hl,Cv,bQ h,dW,ia]
 ·rw[cT h] at hl
  simp only[q26,cb hl,cv hl,Cv,cT h,dW,ia]
def pre (s:ei.D):Nat:=scan (fun n=>(Cv s n).2) s.1.toNat 0
def Ye (s:ei.D)(hs:Fh s)(h1:1≤s.1∧s.1≤24):Wh.q3 s=some ((pre s:Int),()):=by
 have hl:Comes MC (((0:Int),()),s) ((pre s:Int),()):=by
  refine En (fun n=>(((n:Int),()),s)) (n:=s.1.toNat) (fun n=>(Cv s n).2) (fun n=>((n:Int),())) ?_ ?_ ?_
  ·intro i hi h
   have hi':decide ((i:Int)<s.1)=true:=by simp;omega
   have w:=AY (i:=i) (by omega)
   simp only[MC,hi',zog,S4 s hs,h,w,zU,qu,dW,pO,zl70]
  ·intro i hi h
   have hi':decide ((i:Int)<s.1)=true:=by simp;omega
   simp only[MC,hi',zog,S4 s hs,h,zU,qu,dW,zl98]
  ·have hi':decide (((s.1.toNat:Nat):Int)<s.1)=false:=by simp;omega
   simp only[MC,hi',pO,ia]
 simp only[Wh.q3,cb hl,cv hl,dW,ia]
def WQ {f:Nat→Int}{n:Nat}(h:∀i,0<i→i<n→f (i-1)<f i):∀j,j<n→∀i,i≤j→f i+((j:Int)-i)≤f j:=by
 intro j
 induction j with
 |zero=>intro _ i hi;have:i=0:=by omega
        subst this;omega
 |succ j ih=>
  intro hj i hi
  by_cases e:i=j+1
  ·subst e;omega
  ·have h1:f j<f (j+1):=h (j+1) (by omega) hj
   have:=ih (by omega) i (by omega)
   omega
def O1 {s:ei.D}(h:CB s=true):(1≤s.1∧s.1≤24)∧(1≤s.2.1∧s.2.1≤16)∧ld s.2.2.1.length (Ar s)=true∧cross s=true:=by
 simp only[CB,bB,mS] at h
 exact⟨h.1.1.1,h.1.1.2,h.1.2,h.2⟩
def X9 {s:ei.D}(ha:ld s.2.2.1.length (Ar s)=true){k m:Nat}(hk:k<s.2.2.1.length)(hm:m<(fN s k).1.length):0≤(fN s k).1.getD m 0∧(fN s k).1.getD m 0≤s.1-1:=by
 have:=Ug ha hk
 simp only[CA,bB] at this
 have:=wv.1 this.1 m hm
 simp only[CN,bB,mS] at this
 exact this.1
def afi {s:ei.D}(h:ld s.2.2.1.length (Ar s)=true):∀i,0<i→i<s.2.2.1.length→je s (i-1)<je s i:=
 fun i h0 hi=>NS h i (i-1) (by omega) hi
def aej {s:ei.D}(h:CB s=true):((pre s:Nat):Int)=s.1↔(s.2.2.1.length:Int)=s.1:=by
 obtain⟨h1,_,ha,hx⟩:=O1 h
 have hne:=SA ha
 have hb:∀i,i<s.2.2.1.length→0≤je s i∧je s i≤s.1-1:=fun i hi=>X9 ha hi (by have:=hne i hi;omega)
 have sp:=OX (fun n=>(Cv s n).2) s.1.toNat 0
 have sp':pre s≤s.1.toNat∧(∀j,j<pre s→(Cv s j).2=true)∧(pre s<s.1.toNat→(Cv s (pre s)).2=false):=
  ⟨by have:=sp.2.1;unfold pre;omega,fun j hj=>sp.2.2.1 j (lB _) hj,fun hh=>sp.2.2.2 (by unfold pre at hh;omega)⟩
 have gap:=WQ (afi ha)
 have hle:(s.2.2.1.length:Int)≤s.1:=by
  rcases zl83 s.2.2.1.length with hz|hz
  ·omega
  ·have a:=gap (s.2.2.1.length-1) (by omega) 0 (lB _)
   have b:=hb (s.2.2.1.length-1) (by omega)
   have c:=hb 0 (by omega)
   omega
 constructor
 ·intro hp
  have hin:∀n:Nat,n<s.1.toNat→B3 s n<s.2.2.1.length∧je s (B3 s n)=n:=by
   intro n hn
   have:=sp'.2.1 n (by omega)
   unfold Cv at this
   by_cases hi:B3 s n<s.2.2.1.length
   ·have dJ:=X4 hi
    simp only[Et,bB,mS] at dJ
    exact⟨hi,dJ.2⟩
   ·rw[cT hi] at this;cases this
  have g2:=WQ (f:=fun n=>(B3 s n:Int)) (n:=s.1.toNat) (by
   intro i h0 hi
   have a:=hin i hi
   have b:=hin (i-1) (by omega)
   show((B3 s ((i-1:Nat):Int):Nat):Int)<((B3 s (i:Int):Nat):Int)
   rcases Nat.lt_trichotomy (B3 s ((i-1:Nat):Int)) (B3 s (i:Int)) with hlt|heq|hgt
   ·omega
   ·rw[heq] at b;omega
   ·have:=NS ha _ _ hgt b.1;omega)
  have c:=g2 (s.1.toNat-1) (by omega) 0 (lB _)
  have d:=(hin (s.1.toNat-1) (by omega)).1
  omega
 ·intro hl
  have hd:∀i,i<s.2.2.1.length→je s i=i:=by
   intro i hi
   have a:=gap i hi 0 (lB _)
   have b:=gap (s.2.2.1.length-1) (by omega) i (by omega)
   have c:=hb 0 (by omega)
   have d:=hb (s.2.2.1.length-1) (by omega)
   omega
  have hm:ld s.2.2.1.length (FZ s)=true:=by rw[Xg ha];exact hx
  have hone:∀i,i<s.2.2.1.length→(fN s i).1.length=1:=by
   intro i hi
   by_cases e:(fN s i).1.length=1
   ·exact e
   ·exfalso
    have h2:1<(fN s i).1.length:=by have:=hne i hi;omega
    have hr:=X9 ha hi h2
    have ht:(fN s i).1.getD 1 0∈DP s i:=Tw.2 ⟨1,by omega,h2,rfl⟩
    have hlt:((fN s i).1.getD 1 0).toNat<s.2.2.1.length:=by omega
    have:=(Tv ha hi).1 (wv.1 hm i hi) _ hlt
    rw[hd _ hlt] at this
    have e2:((((fN s i).1.getD 1 0).toNat:Nat):Int)=(fN s i).1.getD 1 0:=by omega
    rw[e2] at this
    exact this ht
  have mG:∀n:Nat,n<s.2.2.1.length→(Cv s n).2=true:=by
   intro n hn
   have:B3 s n≤n:=afe hn (by simp only[Et,hone n hn,hd n hn,zl73,zl92])
   unfold Cv
   rw[bQ (by omega)]
  by_cases hlt:pre s<s.1.toNat
  ·have a:=sp'.2.2 hlt
   rw[mG (pre s) (by omega)] at a
   cases a
  ·have:=sp'.1
   omega
def HA (a b:Int):(a==b)=decide (a=b):=rfl
def Db (g:nT.D):Bool:=Bz g.1&&CB g.2.1&&decide (g.2.1.1=cnt g.1)&&decide (g.2.1.2.1=g.1.2.1)
def Oz {p:gT.D}(h:Bz p=true):(1≤p.1∧p.1≤300)∧(1≤p.2.1∧p.2.1≤16):=by
 simp only[Bz,Cy,bB,mS] at h
 exact⟨h.1.1.1.1.1.1,h.1.1.1.1.1.2⟩
def Up (g:nT.D)(hg:GA g):Ga g=some (Db g,()):=by
 have hP:=Ur g.1
 have hS:=aj_ g.2.1 hg.2
 cases h1:Bz g.1 with
 |false=>simp only[Ga,zog,zog,hP,hS,h1,Db,zU,qu,dW,pO,zl98,zl93,zl76,zl92]
 |true=>
  obtain⟨a1,a2⟩:=Oz h1
  have hc:=M0 g.1 a1 a2
  have d1:(g.2.1.1==cnt g.1)=decide (g.2.1.1=cnt g.1):=HA _ _
  have d2:(g.2.1.2.1==g.1.2.1)=decide (g.2.1.2.1=g.1.2.1):=HA _ _
  cases h2:CB g.2.1<;>cases h3:decide (g.2.1.1=cnt g.1)<;>
   simp only[Ga,zog,zog,zog,hP,hS,hc,d1,d2,h1,h2,h3,Db,zU,qu,dW,pO,zl108,zl93,Bool.and_true,zl74,zl99,zl92]
def Yc (g:nT.D)(hg:GA g):Ii g=some (Db g,()):=by
 have hP:=afs g.1
 have hS:=afv g.2.1 hg.2
 cases h1:Bz g.1 with
 |false=>simp only[Ii,zog,zog,hP,hS,h1,Db,zU,qu,dW,pO,zl98,zl93,zl76,zl92]
 |true=>
  obtain⟨a1,a2⟩:=Oz h1
  have hc:=S3 g.1 a1 a2
  have d1:(g.2.1.1==cnt g.1)=decide (g.2.1.1=cnt g.1):=HA _ _
  have d2:(g.2.1.2.1==g.1.2.1)=decide (g.2.1.2.1=g.1.2.1):=HA _ _
  cases h2:CB g.2.1<;>cases h3:decide (g.2.1.1=cnt g.1)<;>
   simp only[Ii,zog,zog,zog,hP,hS,hc,d1,d2,h1,h2,h3,Db,zU,qu,dW,pO,zl108,zl93,Bool.and_true,zl74,zl99,zl92]
def PZ {g:nT.D}(h:Db g=true):Bz g.1=true∧CB g.2.1=true∧g.2.1.1=cnt g.1∧g.2.1.2.1=g.1.2.1:=by
 simp only[Db,bB,mS] at h
 exact⟨h.1.1.1,h.1.1.2,h.1.2,h.2⟩
def ET (g:nT.D):Bool:=Db g&&decide ((g.2.1.2.2.1.length:Int)=cnt g.1)
def adg (g:nT.D)(hg:GA g):E8 g=some (ET g,()):=by
 have hO:=Up g hg
 have hO':=zov hO
 rcases Bool.eq_false_or_eq_true (Db g) with h1|h1
 case inr=>simp only[E8,hO',hO,h1,ET,zU,qu,dW,pO,zl98,zl93,zl76,zl92]
 case inl=>
  obtain⟨a1,a2⟩:=Oz (PZ h1).1
  have hc:=M0 g.1 a1 a2
  have aI:=zov hc
  have d1:((g.2.1.2.2.1.length:Int)==cnt g.1)=decide ((g.2.1.2.2.1.length:Int)=cnt g.1):=HA _ _
  simp only[E8,hO',aI,hO,hc,h1,d1,ET,zU,qu,dW,zl70,zl108,zl71,zl92]
def afy (g:nT.D)(hg:GA g)(h:Db g=true):Wh.q5 g=some (ET g,()):=by
 obtain⟨_,hs,e1,e2⟩:=PZ h
 have hp:=Ye g.2.1 hg.2 (O1 hs).1
 have hp':=zov hp
 have hd:=aej hs
 have:(((pre g.2.1:Nat):Int)==g.2.1.1)=ET g:=by
  unfold ET
  rw[h,zl108,←e1]
  rw[HA]
  by_cases e:((pre g.2.1:Nat):Int)=g.2.1.1
  ·rw[zl86 e,zl86 (hd.1 e)]
  ·rw[zl90 e,zl90 (fun hh=>e (hd.2 hh))]
 simp only[Wh.q5,hp',hp,this,zU,qu,dW]
def GV (g:nT.D):Bool:=
 (g.1.1==0)&&(g.1.2.1==0)&&((g.1.2.2.1.length:Int)==0)&&((g.1.2.2.2.1.length:Int)==0)&&(g.2.1.1==0)&&(g.2.1.2.1==0)&&((g.2.1.2.2.1.length:Int)==0)
def afA (g:nT.D):KR g=some (GV g,()):=by
 simp only[KR,GV,Bool.cond_false_right]
def aj7 (c:bm.D):KE c=some (GV c.2.2.2.2.2.1,()):=by
 simp only[KE,GV,Bool.cond_false_right]
 congr 2
 generalize ((c.2.2.2.2.2.1.1.2.2.1.length:Int)==0)=a1
 generalize ((c.2.2.2.2.2.1.1.2.2.2.1.length:Int)==0)=a2
 generalize (c.2.2.2.2.2.1.1.1==0)=a3
 generalize (c.2.2.2.2.2.1.1.2.1==0)=a4
 generalize (c.2.2.2.2.2.1.2.1.1==0)=a5
 generalize (c.2.2.2.2.2.1.2.1.2.1==0)=a6
 generalize ((c.2.2.2.2.2.1.2.1.2.2.1.length:Int)==0)=a7
 cases a1<;>cases a2<;>cases a3<;>cases a4<;>simp
def Bw (c:bm.D):Bool:=
 decide (0≤c.1∧c.1≤3)&&decide (0≤c.2.1∧c.2.1≤99999)&&decide (0≤c.2.2.1∧c.2.2.1≤4)&&decide (0≤c.2.2.2.2.1∧c.2.2.2.2.1≤99999) &&
 (bif c.2.2.2.2.1==0 then GV c.2.2.2.2.2.1 else Db c.2.2.2.2.2.1) &&
 (bif c.2.2.1==0 then c.2.2.2.1 == []&&c.2.2.2.2.1==0 else
  !(c.2.1==0)&&DI c.2.2.2.1 &&
  (bif c.2.2.1==2 then !(c.2.2.2.2.1==0) && !ET c.2.2.2.2.2.1 else bif c.2.2.1==3 then !(c.2.2.2.2.1==0)&&ET c.2.2.2.2.2.1 else c.2.2.2.2.1==0 || !ET c.2.2.2.2.2.1))
def aj6 (c:bm.D)(hg:GA c.2.2.2.2.2.1)(hn:c.2.2.2.1.length≤4611686018427387904):DY c=some (Bw c,()):=by
 have hL:∀x lo hi,zog gh (x,lo,hi)=(decide (lo≤x∧x≤hi),()):=fun x lo hi=>zov (AN x lo hi)
 have hN:=aj7 c
 have hN':=zov hN
 have hO:=Up _ hg
 have hO':=zov hO
 have hD:=adg _ hg
 have hD':=zov hD
 have hM:=Uq _ hn
 have hM':=zov hM
 obtain⟨id,a,st,name,n,g,u⟩:=c
 dsimp only at hN hN' hO hO' hD hD' hM hM' ⊢
 simp only[DY,Bw,hL,AN,hN,hN',hO,hO',hD,hD',hM,hM',qu,zl99,zU,zl92,dW]
 have e4:(n>0)=(0<n):=rfl
 simp only[e4]
 generalize hb:ET g=b
 generalize hc:Db g=gc
 generalize hd:GV g=gd
 generalize he:DI name=ge
 cases h1:decide (0≤id∧id≤3)
 case false=>simp only[zl98,dW,zl93]
 cases h2:decide (0≤a∧a≤99999)
 case false=>simp only[zl98,zl70,dW,pO,zl93,zl74]
 cases h3:decide (0≤st∧st≤4)
 case false=>simp only[zl98,zl70,dW,pO,zl93,zl74]
 cases h4:decide (0≤n∧n≤99999)
 case false=>simp only[zl98,zl70,dW,pO,zl93,zl74]
 have hn0:decide (0<n) = !(n==0):=by
  have:=zl79 h4
  rw[HA]
  by_cases e:n=0
  ·subst e;rfl
  ·have:0<n:=by omega
   simp[e,this]
 rw[hn0]
 generalize (n==0)=n0
 generalize (a==0)=a0
 generalize (st==0)=s0
 generalize (st==2)=s2
 generalize (st==3)=s3
 generalize (name == [])=m0
 cases n0<;>cases gd<;>cases gc<;>cases s0<;>simp <;>cases a0<;>simp <;>cases ge<;>simp <;>cases s2<;>simp <;>cases s3<;>simp
def Yb (c:bm.D)(hg:GA c.2.2.2.2.2.1)(hn:c.2.2.2.1.length≤4611686018427387904):E7 c=some (Bw c,()):=by
 have hL:∀x lo hi,zog A7 (x,lo,hi)=(decide (lo≤x∧x≤hi),()):=fun x lo hi=>zov (Bt x lo hi)
 have hK:∀x,zog q63 x=(decide (0≤x∧x≤3),()):=fun x=>zov (W9 x)
 have hN:=afA c.2.2.2.2.2.1
 have hN':=zov hN
 have hO:=Yc _ hg
 have hO':=zov hO
 have hM:=Yd _ hn
 have hM':=zov hM
 have hD:=afy _ hg
 obtain⟨id,a,st,name,n,g,u⟩:=c
 dsimp only at hN hN' hO hO' hD hM hM' ⊢
 simp only[E7,Bw,hL,hK,Bt,W9,hN,hN',hO,hO',hM,hM',qu,zl99,zU,zl92,dW]
 have e4:(n>0)=(0<n):=rfl
 simp only[e4]
 generalize hd:GV g=gd
 generalize he:DI name=ge
 cases h1:decide (0≤id∧id≤3)
 case false=>simp only[zl98,dW,zl93]
 cases h2:decide (0≤a∧a≤99999)
 case false=>simp only[zl98,zl70,dW,pO,zl93,zl74]
 cases h4:decide (0≤n∧n≤99999)
 case false=>simp only[zl98,zl70,dW,pO,zl93,zl74]
 have hn0:decide (0<n) = !(n==0):=by
  have:=zl79 h4
  rw[HA]
  by_cases e:n=0
  ·subst e;rfl
  ·have:0<n:=by omega
   simp[e,this]
 rw[hn0]
 have hst:decide (0≤st∧st≤4)=(st==0 || (st==1 || (st==2 || (st==3 || st==4)))):=by
  simp only[HA,←Bool.decide_or]
  exact decide_eq_decide.2 ⟨fun h=>by omega,fun h=>by omega⟩
 rw[hst]
 have x12:(st==1)=true→(st==2)=false∧(st==3)=false:=by simp;intro e;subst e;decide
 have x42:(st==4)=true→(st==2)=false∧(st==3)=false:=by simp;intro e;subst e;decide
 generalize (n==0)=n0
 generalize (a==0)=a0
 generalize (st==0)=s0
 generalize (st==1)=s1 at *
 generalize (st==2)=s2 at *
 generalize (st==3)=s3 at *
 generalize (st==4)=s4 at *
 generalize (name == [])=m0
 rcases Bool.eq_false_or_eq_true (Db g) with hc|hc
 ·have hD1:=hD hc
  have hD2:=zov hD1
  simp only[hD1,hD2,hc,zl99,dW]
  generalize ET g=b
  cases n0<;>cases gd<;>cases s0<;>simp <;>cases a0<;>simp <;>cases ge<;>simp <;>cases s1<;>simp at x12 ⊢ <;>cases s4<;>simp at x42 ⊢ <;>cases s2<;>simp at x12 x42 ⊢ <;>cases s3<;>simp at x12 x42 ⊢
 ·simp only[hc]
  generalize ET g=b
  cases n0<;>simp <;>cases gd<;>simp <;>cases s0<;>simp <;>cases a0<;>simp <;>cases ge<;>simp <;>cases s1<;>simp at x12 ⊢ <;>cases s4<;>simp at x42 ⊢ <;>cases s2<;>simp at x12 x42 ⊢ <;>cases s3<;>simp at x12 x42 ⊢
structure Sml (c:bm.D):Prop where
 name:c.2.2.2.1.length≤1048576
 p3:c.2.2.2.2.2.1.1.2.2.1.length≤1048576
 p4:c.2.2.2.2.2.1.1.2.2.2.1.length≤1048576
 s3:c.2.2.2.2.2.1.2.1.2.2.1.length≤1048576
 row:∀x∈c.2.2.2.2.2.1.2.1.2.2.1,x.1.length≤1048576∧x.2.1.length≤1048576
def Sml.sm {c:bm.D}(h:Sml c):GA c.2.2.2.2.2.1:=
 ⟨⟨by have:=h.p3;omega,by have:=h.p4;omega⟩,by have:=h.s3;omega,fun x hx=>by have:=(h.row x hx).1;omega⟩
end Pc
open Go Go.Ab Go.Lib
namespace Pl
end Pl
open Go Go.Ab Go.Lib
namespace Pl
structure SI (s:b7.D):Prop where
 sm:CQ s
 fT:s.2.2.2.1.2.1.length≤1000
 lg:s.2.2.1.length≤1000000
def PI (p:cp.D):Prop:=(p.1=9∨(0≤p.1∧p.1<4))∧p.2.1.length≤1048576
def ItI (x:an.D):Prop:=x.2.1.length≤1048576∧x.2.2.2.1.length≤1048576
structure GI (g:nT.D):Prop where
 p3:g.1.2.2.1.length≤1048576
 p4:g.1.2.2.2.1.length≤1048576
 s3:g.2.1.2.2.1.length≤1000000
 row:∀x∈g.2.1.2.2.1,x.1.length≤1048576∧x.2.1.length≤1048576
structure CI (c:bm.D):Prop where
 name:c.2.2.2.1.length≤1048576
 g:GI c.2.2.2.2.2.1
structure WI (n:Nat) (w:fk.D):Prop where
 Ay:SI w.1
 cls:w.2.1.length=4
 cl:∀c∈w.2.1,CI c
 Ax:w.2.2.1.length≤60
 pk:∀p∈w.2.2.1,PI p
 FM:w.2.2.2.1.length≤1000*n
 gi:∀x∈w.2.2.2.1,ItI x
def FJ (a:Int)(v:eL.D):Prop:=v.2.2.2.2.2.1.length≤9999999∧(0≤a∨(0≤v.2.1∧v.2.1<4))
def WI.ev {n:Nat}{w:fk.D}(W:WI n w):EvW w:=⟨W.Ay.fT,fun x hx=>(W.Ay.sm.items x hx).1,by have:=W.Ax;omega⟩
def Dh {a b:Nat}(h:a≤4194304)(k:b≤4194304):decide (a+b≤eV)=true:=zl86 (by unfold eV;omega)
def OY {n:Nat}{w:fk.D}(W:WI n w){to:Int}{l:List eL.D}(ht:to=9∨to = -1)(hl:∀v∈l,FJ to v)(hn:l.length≤1000):Rt (G1 (w,to,l)) (fun y=>WI n y.1):=by
 unfold G1
 refine Rt.loop (P:=fun y=>∃Ax,(Ax.length≤60∧∀p∈Ax,PI p)∧y.2.2.1.1=w.1∧y.2.2.2.2.2.2.2.2.2.2.1=w.2.1∧y.2.2.2.2.2.2.2.2.2.2.2.1=Ax∧y.2.2.2.2.2.2.2.2.2.2.2.2=w.2.2.2.1) (DQ (n:=l.length) (I:=fun i x=>∃Ax,x=(((i:Int),(),l,to,()),(w.1,(),(),(),w.2.2.2.2),_,w.2.1,Ax,w.2.2.2.1,_)∧Ax.length≤60∧∀p∈Ax,PI p) ?_ ?_ 0 _ (lB _) ⟨w.2.2.1,rfl,W.Ax,W.pk⟩) fun y hy=>?_
 ·rintro i _ hi ⟨Ax,rfl,h1,h2⟩
  have hw:=hl _ (zl96 hi)
  by_cases hr:Ax.length<60
  ·left
   have wr:=adz (w:=l[i]) hw.1
   obtain⟨t,e,htl⟩:=wr
   have v:=zov e
   have d1:decide ((Ax.length:Int)<60)=true:=zdt
   have d2:=Dh (a:=Ax.length) (b:=1) (by omega) (by omega)
   have gd:l.getD i ((0:Int),(0:Int),(0:Int),(0:Int),(0:Int),[],[],())=l[i]:=getD_eq _ _ _ hi
   rcases ht with rfl|rfl
   ·refine⟨_,by simp only[Md,q39,MB,gl hi,g0,d1,d2,zl94,gd,e,v,qu,zU,zl92,dW,pO,show decide ((9:Int)<0)=false by decide,zw (i:=i)],Ax ++ [(9,t.1,false,())],rfl,by simp;omega,?_⟩
    intro p hp
    rcases bU.1 hp with hp|hp
    ·exact h2 p hp
    ·rw[i_.1 hp];exact⟨.inl rfl,by show t.1.length≤_;omega⟩
   ·refine⟨_,by simp only[Md,q39,MB,gl hi,g0,d1,d2,zl94,gd,e,v,qu,zU,zl92,dW,show decide ((-1:Int)<0)=true by decide,zw (i:=i)],Ax ++ [(l[i].2.1,t.1,false,())],rfl,by simp;omega,?_⟩
    intro p hp
    rcases bU.1 hp with hp|hp
    ·exact h2 p hp
    ·rw[i_.1 hp];exact⟨.inr (hw.2.resolve_left (by omega)),by show t.1.length≤_;omega⟩
  ·have d1:decide ((Ax.length:Int)<60)=false:=zdf
   refine .inr ⟨_,by simp only[Md,gl hi,d1,dW,pO];rfl,Ax,⟨h1,h2⟩,rfl,rfl,rfl,rfl⟩
 ·rintro _ ⟨Ax,rfl,h1,h2⟩
  have d1:decide ((l.length:Int)<(l.length:Int))=false:=zdf
  exact⟨_,by simp only[Md,d1,pO];rfl,Ax,⟨h1,h2⟩,rfl,rfl,rfl,rfl⟩
 ·obtain⟨Ax,⟨h1,h2⟩,e1,e2,e3,e4⟩:=hy
  refine Rt.ok ?_
  dsimp only
  rw[e1,e2,e3,e4]
  exact⟨W.Ay,W.cls,W.cl,h1,h2,W.FM,W.gi⟩
def Zc {n:Nat}{w:fk.D}(W:WI n w)(hn:n≤1000):Rt (KF w) (fun y=>WI (n+1) y.1):=by
 have hi0:=W.Ay.fT
 unfold KF
 refine Rt.loop (P:=fun y=>∃g,(g.length≤1000*n+1000∧∀x∈g,ItI x)∧y.2.2.1.1=w.1∧y.2.2.2.2.2.2.2.2.2.2.1=w.2.1∧y.2.2.2.2.2.2.2.2.2.2.2.1=w.2.2.1∧y.2.2.2.2.2.2.2.2.2.2.2.2=g) (DQ (n:=w.1.2.2.2.1.2.1.length) (I:=fun i x=>∃g,x=(((i:Int),(),()),(w.1,(),(),(),w.2.2.2.2),_,w.2.1,w.2.2.1,g,_)∧g.length≤1000*n+i∧∀x∈g,ItI x) ?_ ?_ 0 _ (lB _) ⟨w.2.2.2.1,rfl,W.FM,W.gi⟩) fun y hy=>?_
 ·rintro i _ hi ⟨g,rfl,h1,h2⟩
  left
  have hm:=W.Ay.sm.items _ (zl96 hi)
  have gd:w.1.2.2.2.1.2.1.getD i ((0:Int),[],(0:Int),[],())=w.1.2.2.2.1.2.1[i]:=getD_eq _ _ _ hi
  simp only[QK,gl hi,g0,zl94,gd,zU,zl92,dW,zl17,Dh (a:=g.length) (b:=1) (by omega) (by omega),Dh (a:=0) (b:=g.length) (by omega) (by omega),zw (i:=i)]
  cases decide (w.1.2.2.2.1.2.1[i].2.2.1>((g.length:Nat):Int))
  ·exact⟨_,rfl,g,rfl,by omega,h2⟩
  ·refine⟨_,rfl,g ++ [w.1.2.2.2.1.2.1[i]],rfl,by simp;omega,fun x hx=>?_⟩
   rcases bU.1 hx with hx|hx
   ·exact h2 x hx
   ·rw[i_.1 hx];exact hm
 ·rintro _ ⟨g,rfl,h1,h2⟩
  have d1:decide ((w.1.2.2.2.1.2.1.length:Int)<(w.1.2.2.2.1.2.1.length:Int))=false:=zdf
  exact⟨_,by simp only[QK,d1,pO];rfl,g,⟨by omega,h2⟩,rfl,rfl,rfl,rfl⟩
 ·obtain⟨g,⟨h1,h2⟩,e1,e2,e3,e4⟩:=hy
  refine Rt.ok ?_
  dsimp only
  rw[e1,e2,e3,e4]
  exact⟨W.Ay,W.cls,W.cl,W.Ax,W.pk,by show g.length≤_;omega,h2⟩
def WI.up {n m:Nat}{w:fk.D}(W:WI n w)(h:n≤m):WI m w:=⟨W.Ay,W.cls,W.cl,W.Ax,W.pk,by have:=W.FM;have:=Nat.mul_le_mul_left 1000 h;omega,W.gi⟩
section
variable {now cl hd:Int} {log:List UInt8} {fT:List It} {l:List Fr} {h:Nat} {S:List Sv} {B:List Bu}
def akt (T:TickI now cl hd fT l h S)(hB:B.length=2)(k j:Nat)(hk:k<S.length)(hj:D8 fT (S.getD k zS).2.2.1=some j) :
  Rt (Mb ((true,now,log,(cl,fT,()),(l,hd,()),B,S,()),(k:Int),fT.getD j z0)) (fun y=>∃l' B' S' n d,y.1=((true,now,log,(cl,fT,()),(l',n,()),B',S',()),[(3,(S.getD k zS).1,(S.getD k zS).2.1,(S.getD k zS).2.2.1,(S.getD k zS).2.2.2.1,[],d,())])∧l'.length=8∧B'.length=2∧S'.length=S.length):=by
 have hh (x:Int):Cj x=some (Int.tmod x 2,()):=rfl
 have hjl:=Sz hj
 obtain⟨i1,i2,i3⟩:=Yl T.cat hjl
 have hb:=hs_b T.Ay hk
 have nxk:=T.nx k hk
 have edk:=T.ed k hk
 have ced:0≤cl∧cl≤99999:=T.cat.ed
 have i1:0≤(fT.getD j z0).1∧(fT.getD j z0).1≤1:=i1
 have i2:1≤(fT.getD j z0).2.2.2.1.length:=i2
 have i3:(fT.getD j z0).2.2.2.1.length≤300:=i3
 have et:(fT.getD j z0).2.2.1=(S.getD k zS).2.2.1:=eq_of_beq (CE.1 hj).2.1
 unfold hs at hb
 generalize hv:S.getD k zS=v at *
 generalize ht:fT.getD j z0=t at *
 obtain⟨id,hid⟩:∃id:Nat,v.2.2.2.1=(id:Int):=⟨v.2.2.2.1.toNat,by omega⟩
 obtain⟨s',c,q1,q2,q3,q4,q5,q6,q7⟩:=ZC t.2.2.2.1.length i2 i3
 have pz:=ZB t.2.2.2.1.length s' c
 have pl:=aho t.2.2.2.1.length s' c
 have r1:=ajZ t.2.2.2.1.length s' c id i3 q1 q2 q3 q4 q5 (by omega)
 have y1:=ajI t.2.2.2.1.length s' c t.2.2.2.1 rfl i3 q1 q2 q3 q5
 have y2:=aj0 t.2.2.2.1.length s' c id t.2.2.2.1 rfl q1 q2 q3 q4 q5
 have rl:=(acS (id:=id) q4).2
 have rm:∀i,i<(DO c id).length→nc ((DO c id).getD i 0) 0 23=true:=fun i hi=>by
  have:=acT (id:=id) q4 (x:=(DO c id).getD i 0) (by rw[getD_eq _ _ _ hi];exact zl96 hi)
  exact zdt
 generalize symV s' c id t.2.2.2.1=d at *
 generalize ER s' (Hy c s' t.2.2.2.1) c=ct at *
 generalize DO c id=row at *
 generalize DW t.2.2.2.1.length s' c=P at *
 obtain⟨P1,P2,W,ws,u⟩:=P
 have pz:P2=(s':Int):=pz
 subst pz
 have te:nc t.2.2.1 1 99999=true:=zdt
 have t1:nc t.1 0 1=true:=zdt
 unfold Mb
 unfold zS at hv
 refine Rt.all (by simp only[gl hk,g0,zU,zl92]) ?_
 simp only[zl94,hv]
 refine Rt.val (P:=fun y=>y=((P1,(s':Int),W,ws,u),())) ⟨_,q6,rfl⟩ fun y hy e=>?_
 subst hy
 refine Rt.all (by simp only[e,qu,zU]) ?_
 rw[hid]
 refine Rt.call (P:=fun y=>y=(row,())) ⟨_,r1,rfl⟩ fun y hy=>?_
 subst hy
 refine Rt.loop (P:=fun y=>∃l' hd',Ca l' hd'∧y=(((),(),(),(),(),(),(k:Int)),(false,(0:Int),[],((0:Int),(),()),((),(0:Int),()),(),(),()),(P1,(s':Int),(),(),u),row,t,v,(true,now,log,(cl,(),()),((),((hd':Nat):Int),()),(),(),()),[],[],[],[],W,ws,fT,l',B,S))
  (DQ (n:=row.length) (I:=fun i x=>∃l' hd',Ca l' hd'∧IK l'∧x=(((i:Int),(),(),(),(),(),(),(k:Int)),(true,now,log,(cl,(),()),((),((hd':Nat):Int),()),(),(),()),row,t,(false,(0:Int),[],((0:Int),(),()),((),(0:Int),()),(),(),()),(P1,(s':Int),(),(),u),v,fT,l',B,S,[],[],[],[],W,ws)) ?_ ?_ 0 _ (lB _) ⟨l,h,T.GY,T.free,by rw[T.hde];rfl⟩) fun y hy=>?_
 ·rintro i _ hi ⟨l1,j_,G,F,rfl⟩
  left
  have e1:=ajP l1 j_ t.1 t.2.2.1 (row.getD i 0) G.hd G.len fun k hk=>G.held k hk
  have wi:=zw (i:=i)
  rcases got_ok G F t1 te (rm i hi) with⟨l',hd',n,c,eq,hc,g⟩|⟨f,c,eq,hc⟩
  ·rw[eq] at e1
   have el:=ajS g.g n g.lt g.one
   have aI:(bif(c==(0:Int)) then true else c==(1:Int))=true:=by rcases hc with rfl|rfl<;>rfl
   exact⟨_,by simp only[OC,gl hi,g0,zl94,e1,zov e1,aI,el,zov el,AA,wi],_,_,g.g',g.f',rfl⟩
  ·rw[eq] at e1
   have aI:(bif(c==(0:Int)) then true else c==(1:Int))=false:=by rcases hc with rfl|rfl<;>rfl
   exact⟨_,by simp only[OC,gl hi,g0,zl94,e1,zov e1,aI,AA,pO,wi],_,_,G,F,rfl⟩
 ·rintro _ ⟨l1,j_,G,F,rfl⟩
  have d1:decide ((row.length:Int)<(row.length:Int))=false:=zdf
  exact⟨_,by simp only[OC,d1,pO],l1,j_,G,rfl⟩
 obtain⟨l',hd',G,rfl⟩:=hy
 refine Rt.call (P:=fun y=>y.1=Int.tmod v.1 2) ⟨_,hh _,rfl⟩ fun y hy=>?_
 have hk0:decide (0≤y.1)=true:=zl86 (by rw[hy];omega)
 have hk1:decide (y.1<(B.length:Int))=true:=zl86 (by rw[hy];omega)
 refine Rt.all (by simp only[hk0,hk1,zU,zl92]) (Rt.all (by simp only[g0,gl hk,zU,zl92]) (Rt.all (by simp only[g0,zl66,gl hk,zU,zl92]) ?_))
 refine Rt.val (P:=fun y=>y=(ct,())) ⟨_,y1,rfl⟩ fun y hy e2=>?_
 subst hy
 refine Rt.val (P:=fun y=>y.1=d) ⟨_,y2,rfl⟩ fun y hy e3=>?_
 refine Rt.all (by simp only[e2,e3,qu,zU,zl92]) (Rt.ok ⟨l',_,_,(hd':Int),y.1,by rw[←hid],G.len,by rw[zl66];exact hB,by rw[zl66,zl66]⟩)
def HrI (y:(b7.D×List eL.D)×Unit):Prop:=SI y.1.1∧y.1.2.length≤1000∧∀v∈y.1.2,FJ (-1) v
def hr0 {s:b7.D}(h:SI s):HrI ((s,[]),()):=⟨h,by simp,by simp⟩
def hr1 {s:b7.D}(h:SI s){v:eL.D}(hv:FJ (-1) v):HrI ((s,[v]),()):=⟨h,by simp,by simpa using hv⟩
def Pr:SI C8:=⟨Hv,by simp[C8],by simp[C8]⟩
def OZ {s:b7.D}(Sm:CQ s)(ho:AQ s=true):SI s:=⟨Sm,by have:=(EY ho).len;omega,by have:=F0 ho;omega⟩
def akx {s:b7.D}(Sm:CQ s):Rt (q35 s) HrI:=by
 have so:=MZ s Sm
 unfold q35
 refine Rt.call (P:=fun y=>y.1=AQ s) ⟨_,so,rfl⟩ fun y hy=>Rt.bif (fun _=>Rt.ok (hr0 Pr)) fun hc=>?_
 rw[hy] at hc
 have ok:AQ s=true:=by simpa using hc
 have C:=(EY ok).len
 have sc:=MY s Sm (by omega)
 refine Rt.call (P:=fun y=>y=(s,())) ⟨_,sc,rfl⟩ fun y hy=>?_
 subst hy
 refine Rt.bif (fun _=>Rt.ok (hr0 (OZ Sm ok))) fun hc=>?_
 obtain⟨up,now,log,⟨cl,fT,cu⟩,p,bk,S,u⟩:=s
 cases up with
 |false=>cases hc
 |true=>
 have h9:now<99999:=by simp at hc;omega
 have S1:S.length≤1048576:=Sm.Ay
 obtain⟨l,h,b0,b1,rfl,rfl,T,o0,o1,a0,a1,N1⟩:=ok_up ok h9 (by omega)
 have n0:0≤now∧now≤99999:=by
  have q:=ok
  unfold AQ at q
  simp only[bB] at q
  exact zl79 q.1
 obtain⟨N,hN⟩:∃N,now=N-1:=⟨now+1,by omega⟩
 subst hN
 rw[show N-1+1=N by omega] at T
 dsimp only
 rw[wrap64 (by omega) (by omega),show N-1+1=N by omega]
 refine Rt.loop (P:=fun y=>y=_) ⟨_,akc N log cl (h:Int) fT l S b0 b1,rfl⟩ fun y hy=>?_
 subst hy
 have hB: [bV b0 N,bV b1 N].length=2:=rfl
 have sj:=ajR (true,N,log,(cl,fT,()),(l,(h:Int),()),[bV b0 N,bV b1 N],S,()) T.Ay T.cat rfl
 have jn:=ac6 (Yn T.Ay (fun i=>(S.getD i zS).1) (O:=Dj [bV b0 N,bV b1 N] fT S S.length) (fun i hi=>(acX.1 hi).1) (acW _ _ _ _))
 rw[Ym] at jn
 dsimp only at sj
 have kS:∀b,CD (vO S (Dj [bV b0 N,bV b1 N] fT S S.length)) (Dj [bV b0 N,bV b1 N] fT S S.length).length=some b→(Dj [bV b0 N,bV b1 N] fT S S.length).getD b 0<S.length:=fun b e=>by
  have hb:=LA e
  rw[getD_eq _ _ _ hb]
  exact(acX.1 (zl96 hb)).1
 generalize Dj [bV b0 N,bV b1 N] fT S S.length=K at *
 generalize [bV b0 N,bV b1 N]=B at *
 have SmX:∀(l:List Fr) (n:Int) (B:List Bu) (S':List Sv),l.length=8→B.length=2→S'.length≤S.length→SI (true,N,log,(cl,fT,()),(l,n,()),B,S',()):=fun l n B S' h1 h2 h3=>⟨⟨Sm.log,Sm.cat,Sm.items,by show l.length≤_;omega,by show B.length≤_;omega,by show S'.length≤_;omega⟩,by show fT.length≤_;have:fT.length≤8:=C;omega,by have:=F0 ok;show log.length≤_;have:log.length≤9000:=this;omega⟩
 have lp:=T.GY.len
 refine Rt.call (P:=fun y=>y=(Cc (fun i=>(S.getD i zS).1) S K,())) ⟨_,sj,rfl⟩ fun y hy=>?_
 subst hy
 refine Rt.call (P:=fun y=>y.1=Cs (CD (vO S K) K.length)) ⟨_,jn,rfl⟩ fun y hy=>Rt.bif (fun _=>Rt.ok (hr0 (SmX _ _ _ _ lp hB (bA _)))) fun hc=>?_
 rw[hy] at hc
 cases e:CD (vO S K) K.length with
 |none=>rw[e] at hc;cases hc
 |some b=>
 have hb:=LA e
 have jl:b<(Cc (fun i=>(S.getD i zS).1) S K).length:=by rw[IZ];exact hb
 have jg:=P8 (fun i=>(S.getD i zS).1) S K b hb
 have kl:=kS b e
 have at_:=ajF (true,N,log,(cl,fT,()),(l,(h:Int),()),B,S,()) T.Ay (K.getD b 0) kl
 have hyb:y.1=((b:Nat):Int):=by rw[hy,e];rfl
 generalize K.getD b 0=k at *
 have ed1:=Rq (cl,fT,()) (S.getD k zS).2.2.1 (by show fT.length≤_;have:fT.length≤8:=C;omega)
 have vk:∀j (d:List UInt8) (a:Int),FJ (-1) (j,(S.getD k zS).1,(S.getD k zS).2.1,(S.getD k zS).2.2.1,a,[],d,()):=fun j d a=>⟨by simp,.inr ⟨(T.Ay.cl k kl).1,by have:=(T.Ay.cl k kl).2;show(S.getD k zS).1<4;omega⟩⟩
 dsimp only at at_ ed1
 unfold zJ at jg
 rw[hyb]
 dsimp only
 simp only[zl94,jg]
 refine Rt.val (P:=fun y=>y=(((k:Nat):Int),())) ⟨_,at_,rfl⟩ fun y hy e1=>?_
 subst hy
 refine Rt.all (by simp only[e1,qu,g0,gl jl,zU,zl92]) ?_
 have hz:List.getD S (Int.toNat ((k:Nat):Int)) ((0:Int),(0:Int),(0:Int),(0:Int),(0:Int),(0:Int),())=S.getD k zS:=by rw[zl94];rfl
 dsimp only
 rw[hz]
 refine Rt.val (P:=fun y=>y=((HH fT (D8 fT (S.getD k zS).2.2.1),(D8 fT (S.getD k zS).2.2.1).isSome),())) ⟨_,ed1,rfl⟩ fun y hy e2=>?_
 subst hy
 refine Rt.all (by simp only[e2,qu,g0,gl kl,zU,zl92]) ?_
 cases ej:D8 fT (S.getD k zS).2.2.1 with
 |none=>
  refine Rt.bif (fun _=>Rt.all (by simp only[g0,gl kl,zU,zl92]) ?_) fun hc=>by cases hc
  have w:=Ru (true,N,log,(cl,fT,()),(l,(h:Int),()),B,S,()) T.Ay.len (S.getD k zS).1
  refine Rt.val (P:=fun y=>y=_) ⟨_,w,rfl⟩ fun y hy e3=>?_
  subst hy
  refine Rt.val (P:=fun y=>y=([((6:Int),(S.getD k zS).1,(S.getD k zS).2.1,(S.getD k zS).2.2.1,(0:Int),[],[],())],())) ⟨_,rfl,rfl⟩ fun y hy e4=>?_
  subst hy
  refine Rt.all (by simp only[e3,e4,qu,zU,zl92]) (Rt.ok (hr1 (SmX _ _ _ _ lp hB ?_) (vk _ _ _)))
  rw[wo_all T.Ay k kl,zl113 kl];omega
 |some j=>
  refine Rt.bif (fun hc=>by cases hc) fun _=>?_
  refine Rt.call (akt T hB k j kl ej) fun y hy=>?_
  obtain⟨l',B',S',n,d,h1,h2,h3,h4⟩:=hy
  refine Rt.ok ?_
  rw[h1]
  exact hr1 (SmX _ _ _ _ h2 h3 (by omega)) (vk _ _ _)
end
def Sn {s:List UInt8}(b:Int)(hs:s.length≤1048576):Rt (DJ (s,b)) (fun y=>∀x∈y.1,x.length≤s.length):=by
 unfold DJ
 refine Rt.loop (P:=fun y=>∃f:Nat,f≤s.length∧y.1=((f:Int),s,())∧y.2.length≤s.length∧∀x∈y.2,x.length≤s.length)
  (DQ (n:=s.length) (I:=fun i x=>∃(f:Nat) (l:List (List UInt8)),x=(((i:Int),(f:Int),s,(),b),l)∧f≤i∧l.length≤i∧∀x∈l,x.length≤s.length) ?_ ?_ 0 _ (lB _) ⟨0,[],rfl,bA _,bA _,by simp⟩) fun y hy=>?_
 ·rintro i _ hi ⟨f,l,rfl,h1,h2,h3⟩
  left
  simp only[DK,gl hi,g0,zl94,zU,zl92,dW,Dh (a:=l.length) (b:=1) (by omega) (by omega),zdt (p:=(f:Int)≤(i:Int)),zdt (p:=(i:Int)≤(s.length:Int)),zw (i:=i)]
  cases (((s.getD i 0).toNat:Nat):Int)==b
  ·exact⟨_,rfl,f,l,rfl,by omega,by omega,h3⟩
  ·refine⟨_,rfl,i+1,_,rfl,by omega,by simp;omega,fun x hx=>?_⟩
   rcases bU.1 hx with hx|hx
   ·exact h3 x hx
   ·rw[i_.1 hx];simp;omega
 ·rintro _ ⟨f,l,rfl,h1,h2,h3⟩
  have d1:decide ((s.length:Int)<(s.length:Int))=false:=zdf
  exact⟨(((f:Int),s,()),l),by simp only[DK,d1,pO],f,h1,rfl,h2,h3⟩
 ·obtain⟨f,h1,e,h2,h3⟩:=hy
  dsimp only
  rw[e]
  refine Rt.all (by simp only[g0,zU,zl92,Dh (a:=y.2.length) (b:=1) (by omega) (by omega),zdt (p:=(f:Int)≤(s.length:Int)),Int.le_refl,zl73]) (Rt.ok fun x hx=>?_)
  rcases bU.1 hx with hx|hx
  ·exact h3 x hx
  ·rw[i_.1 hx];simp
def TD {s:List UInt8}(hs:s.length≤1048576):Rt (AF s) (fun _=>True):=⟨_,I4 _ (by omega),trivial⟩
def J3 {l:List (List UInt8)}{n:Nat}(h:∀x∈l,x.length≤n)(i:Nat):(l.getD i []).length≤n:=by
 by_cases hi:i<l.length
 ·rw[getD_eq _ _ _ hi];exact h _ (zl96 hi)
 ·rw[zl26,zl8 (by omega)];simp
def Zd {s:List UInt8}(hs:s.length≤1048576):Rt (Ie s) (fun y=>y.1.length≤4):=by
 unfold Ie
 refine Rt.call (Sn 44 hs) fun y hy=>?_
 refine Rt.loop (P:=fun z=>z.2.length≤4) (DQ (n:=4) (I:=fun i x=>∃l:List Int,x=(((i:Int),(),()),y.1,l)∧l.length≤i) ?_ ?_ 0 _ (lB _) ⟨[],rfl,bA _⟩) fun z hz=>Rt.ok hz
 ·rintro i _ hi ⟨l,rfl,h⟩
  by_cases h1:i<y.1.length
  ·obtain⟨z,e,_⟩:=TD (s:=y.1.getD i []) (by have:=J3 hy i;omega)
   have d1:decide ((i:Int)≤3)=true:=zdt
   exact .inl ⟨(((((i+1:Nat)):Int),(),()),y.1,l ++ [z.1]),by simp only[OH,gl h1,d1,g0,zl94,e,zov e,qu,zU,zl92,dW,Dh (a:=l.length) (b:=1) (by omega) (by omega),zw (i:=i)],_,rfl,by simp;omega⟩
  ·have d1:decide ((i:Int)<(y.1.length:Int))=false:=zdf
   exact .inr ⟨((),l),by simp only[OH,d1,pO],by dsimp only;omega⟩
 ·rintro _ ⟨l,rfl,h⟩
  refine⟨((),l),?_,h⟩
  have d1:(bif decide ((((4:Nat)):Int)<(y.1.length:Int)) then decide ((((4:Nat)):Int)≤3) else false)=false:=by cases decide ((((4:Nat)):Int)<(y.1.length:Int))<;>rfl
  simp only[OH,d1,pO]
def Yy {l:List Int}(hl:l.length≤3)(hx:∀x∈l,0≤x∧x≤9999999):Rt (Ic l) (fun y=>y.1.length≤24):=by
 unfold Ic
 refine Rt.loop (P:=fun y=>y.1.length≤24) (DQ (n:=l.length) (I:=fun i x=>∃t:List UInt8,x=(((i:Int),l,t),())∧t.length≤8*i) ?_ ?_ 0 _ (lB _) ⟨[],rfl,bA _⟩) fun y hy=>Rt.ok hy
 ·rintro i _ hi ⟨t,rfl,h⟩
  left
  have hm:=hx _ (zl96 hi)
  obtain⟨u,e,hu⟩:=HG hm.1 hm.2
  have v:=zov e
  have gd:l.getD i 0=l[i]:=getD_eq _ _ _ hi
  have r1:=Dh (a:=t.length) (b:=1) (by omega) (by omega)
  have r2:=Dh (a:=t.length) (b:=u.1.length) (by omega) (by omega)
  have r3:=Dh (a:=(t ++ [(44:UInt8)]).length) (b:=u.1.length) (by simp;omega) (by omega)
  simp only[QO,gl hi,g0,zl94,gd,e,v,qu,zU,zl92,dW,r1,r2,r3,zw (i:=i)]
  cases decide ((i:Int)>0)
  ·exact⟨_,rfl,_,rfl,by simp;omega⟩
  ·exact⟨_,rfl,_,rfl,by simp;omega⟩
 ·rintro _ ⟨t,rfl,h⟩
  have d1:decide ((l.length:Int)<(l.length:Int))=false:=zdf
  exact⟨(t,()),by simp only[QO,d1,pO],by dsimp only;omega⟩
def ahq {p:gT.D}(h:Pc.Bz p=true):(1≤p.1∧p.1≤300)∧(1≤p.2.1∧p.2.1≤16)∧(p.2.2.1.length≤3∧∀x∈p.2.2.1,0≤x∧x≤9999999)∧(p.2.2.2.1.length≤3∧∀x∈p.2.2.2.1,0≤x∧x≤9999999):=by
 unfold Pc.Bz Pc.Cy at h
 simp only[bB,mS] at h
 obtain⟨⟨⟨⟨⟨⟨a1,a2⟩,a3⟩,a4⟩,a5⟩,b⟩,_⟩:=h
 have hb:∀i,i<p.2.2.1.length→(1≤p.2.2.1.getD i 0∧p.2.2.1.getD i 0≤Pc.cnt p)∧(1≤p.2.2.2.1.getD i 0∧p.2.2.2.1.getD i 0≤99):=fun i hi=>by
  have:=Pc.wv.1 b i hi
  unfold Pc.F3 at this
  simp only[bB,mS] at this
  exact⟨this.1.1,this.2⟩
 refine⟨a1,a2,⟨a4.2,fun x hx=>?_⟩,by omega,fun x hx=>?_⟩
 ·obtain⟨i,hi,rfl⟩:=zl100 hx
  have:=(hb i hi).1
  rw[getD_eq _ _ _ hi] at this
  omega
 ·obtain⟨i,hi,rfl⟩:=zl100 hx
  have:=(hb i (by omega)).2
  rw[getD_eq _ _ _ hi] at this
  omega
def T1 (p:gT.D):Rt (E6 p) (fun y=>y.1.length≤80):=by
 unfold E6
 refine Rt.call (P:=fun y=>y.1=Pc.Bz p) ⟨_,Pc.Ur p,rfl⟩ fun y hy=>Rt.bif (fun _=>Rt.ok (by simp)) fun hc=>?_
 rw[hy] at hc
 obtain⟨h1,h2,⟨h3,h4⟩,h5,h6⟩:=ahq (p:=p) (by simpa using hc)
 refine Rt.val (HG (show 0≤p.1 by omega) (by omega)) fun y1 k1 e1=>?_
 refine Rt.val (HG (show 0≤p.2.1 by omega) (by omega)) fun y2 k2 e2=>?_
 refine Rt.val (Yy h3 h4) fun y3 k3 e3=>?_
 refine Rt.val (Yy h5 h6) fun y4 k4 e4=>?_
 refine Rt.all ?_ (Rt.ok ?_)
 ·simp[e1,e2,e3,e4,qu,zU,eV]
  omega
 ·simp only[eY,zl6,rA]
  omega
def ahn {t:List UInt8}(ht:t.length≤1048576):Rt (q69 t) (fun y=>y.1.1.2.2.1.length≤4∧y.1.1.2.2.2.1.length≤4):=by
 unfold q69
 have z:Rt (some ((((0:Int),(0:Int),([]:List Int),([]:List Int),()),false),())) (fun y=>y.1.1.2.2.1.length≤4∧y.1.1.2.2.2.1.length≤4):=Rt.ok ⟨by simp,by simp⟩
 refine Rt.call (Sn 58 ht) fun y hy=>Rt.bif (fun _=>z) fun h3=>?_
 have h3:y.1.length=3:=by simp at h3;omega
 refine Rt.val (Sn 47 (by have:=J3 hy (Int.toNat 0);omega)) fun u hu e=>?_
 refine Rt.all (by simp only[e,qu,h3,zU];rfl) (Rt.bif (fun _=>z) fun h2=>?_)
 have h2:u.1.length=2:=by simp at h2;omega
 have hg:=J3 hy (Int.toNat 0)
 refine Rt.val (Zd (by have:=J3 hy (Int.toNat 1);omega)) fun y1 k1 e1=>?_
 refine Rt.val (Zd (by have:=J3 hy (Int.toNat 2);omega)) fun y2 k2 e2=>?_
 refine Rt.val (TD (by have:=J3 hu (Int.toNat 1);omega)) fun y3 _ e3=>?_
 refine Rt.val (TD (by have:=J3 hu (Int.toNat 0);omega)) fun y4 _ e4=>?_
 refine Rt.all (by simp only[e1,e2,e3,e4,qu,h3,h2,zU];rfl) ?_
 exact Rt.call (T1 _) fun _ _=>Rt.bif (fun _=>z) fun _=>Rt.ok ⟨k1,k2⟩
section
variable {up:Bool} {now cl:Int} {log:List UInt8} {fT:List It} {p:Po} {bk:List Bu} {S:List Sv} {w:eL.D}
def OpI (S0:b7.D)(y:(b7.D×List eL.D)×Unit):Prop:=(∃S',S'.length≤1000∧y.1.1=(S0.1,S0.2.1,S0.2.2.1,S0.2.2.2.1,S0.2.2.2.2.1,S0.2.2.2.2.2.1,S',S0.2.2.2.2.2.2.2))∧y.1.2.length≤1000∧∀v∈y.1.2,FJ (-1) v
def UL (S:List Sv)(c:Int):(wo S c S.length).length≤S.length:=UM S c S.length
def ins_le (S:List Sv)(v:Sv):(P7 S v).length≤S.length+1:=by unfold P7;simp;omega
def ag_ (I:EO S now)(C:BL (cl,fT,()))(hw:0≤w.2.1∧w.2.1≤3):Rt (L_ ((true,now,log,(cl,fT,()),p,bk,S,()),w)) (OpI (true,now,log,(cl,fT,()),p,bk,S,())):=by
 have l4:=adj I
 have hn:=I.len
 have same:∀{v:eL.D},FJ (-1) v→OpI (true,now,log,(cl,fT,()),p,bk,S,()) (((true,now,log,(cl,fT,()),p,bk,S,()),[v]),()):=fun hv=>⟨⟨S,by omega,rfl⟩,by simp,by simpa using hv⟩
 have wd:∀a b c d (t:List UInt8),FJ (-1) (a,w.2.1,b,c,d,[],t,()):=fun a b c d t=>⟨by simp,.inr ⟨hw.1,by show w.2.1<4;omega⟩⟩
 have hh (x:Int):Cj x=some (Int.tmod x 2,()):=rfl
 have gone:∀e:Int,Jm (w.2.1,w.2.2.1,e)=some ([((6:Int),w.2.1,w.2.2.1,e,(0:Int),[],[],())],()):=fun _=>rfl
 have pw:∀{it:It},it∈fT→∃P t,Ci ((it.2.2.2.1.length:Nat):Int)=some (P,())∧E6 P=some (t,()):=fun {it} hi=>by
  obtain⟨_,h1,h2⟩:=Jl (C.ok it hi)
  obtain⟨s',c,_,_,_,_,_,q6,_⟩:=ZC it.2.2.2.1.length h2.1 h2.2
  obtain⟨t,e,_⟩:=T1 (DW it.2.2.2.1.length s' c)
  exact⟨_,t.1,q6,e⟩
 unfold L_
 have at_:=adb (true,now,log,(cl,fT,()),p,bk,S,()) hn w.2.1
 refine Rt.call (P:=fun y=>y.1=Cs (svO S w.2.1)) ⟨_,at_,rfl⟩ fun y hy=>?_
 have ko:∀c:Bool,(!decide (y.1≥0) || decide ((0:Int)≤y.1))=true∧(!decide (y.1≥0) || decide (y.1<(S.length:Int)))=true∧((!!bif decide (y.1<0) then true else c) || decide ((0:Int)≤y.1))=true∧((!!bif decide (y.1<0) then true else c) || decide (y.1<(S.length:Int)))=true∧(!!decide (y.1<0) || decide ((0:Int)≤y.1))=true∧(!!decide (y.1<0) || decide (y.1<(S.length:Int)))=true:=by
  intro c
  cases e:svO S w.2.1 with
  |none=>rw[e] at hy;rw[hy];cases c<;>simp[Cs]
  |some k=>
   rw[e] at hy
   have:=(CE.1 e).1
   have e1:decide (y.1<(S.length:Int))=true:=zl86 (by rw[hy];show((k:Nat):Int)<_;omega)
   have e2:decide ((0:Int)≤y.1)=true:=zl86 (by rw[hy];show(0:Int)≤((k:Nat):Int);omega)
   rw[e1,e2]
   simp
 have k1:=ko true
 refine Rt.all (by simp only[k1,zU,zl92]) (Rt.bif (fun _=>Rt.ok ⟨⟨S,by omega,rfl⟩,by simp,by simp⟩) fun _=>?_)
 refine Rt.val (P:=fun u=>u.1=Int.tmod w.2.1 2) ⟨_,hh _,rfl⟩ fun u hu e1=>?_
 obtain⟨it,ok,eg,hm⟩:∃it ok,Ei ((cl,fT,()),u.1,w.2.2.2.2.2.1)=some ((it,ok),())∧(ok=true→it∈fT):=by
  cases ha:C_ fT u.1 w.2.2.2.2.2.1 with
  |none=>exact⟨_,_,adV C ha,by intro h;cases h⟩
  |some i=>obtain⟨hi,e⟩:=adW C ha;exact⟨_,_,e,fun _=>by show fT.getD i z0∈fT;rw[getD_eq _ _ _ hi];exact zl96 _⟩
 refine Rt.val (P:=fun u=>u=((it,ok),())) ⟨_,eg,rfl⟩ fun z hz e2=>?_
 subst hz
 refine Rt.all (by simp only[e1,e2,qu,zU,zl92]) (Rt.bif (fun _=>?_) fun hc=>?_)
 ·refine Rt.all (by simp only[k1,zU,zl92]) (Rt.bif (fun _=>?_) fun _=>?_)
  ·have wo_:=Ru (true,now,log,(cl,fT,()),p,bk,S,()) hn w.2.1
   have:=UL S w.2.1
   refine Rt.call (P:=fun y=>y=_) ⟨_,wo_,rfl⟩ fun y hy=>Rt.call (P:=fun y=>y=_) ⟨_,gone _,rfl⟩ fun z hz=>?_
   subst hy hz
   exact Rt.ok ⟨⟨_,by dsimp only;omega,rfl⟩,by simp,by simpa using wd _ _ _ _ _⟩
  ·refine Rt.call (P:=fun y=>y=_) ⟨_,gone _,rfl⟩ fun z hz=>?_
   subst hz
   exact Rt.ok (same (wd _ _ _ _ _))
 ·have ok1:ok=true:=by cases ok with | true=>rfl|false=>cases hc
  obtain⟨P,t,p1,p2⟩:=pw (hm ok1)
  have k2:=ko (decide ((List.getD S (Int.toNat y.1) ((0:Int),(0:Int),(0:Int),(0:Int),(0:Int),(0:Int),())).2.1<w.2.2.1))
  refine Rt.all (by simp only[k2,zU,zl92]) (Rt.bif (fun _=>?_) fun _=>?_)
  ·have wi:=aj5 (true,now,log,(cl,fT,()),p,bk,S,()) (by show S.length≤1000;omega) (w.2.1,w.2.2.1,it.2.2.1,(0:Int),(0:Int),now,())
   have h1:=ins_le (wo S w.2.1 S.length) (w.2.1,w.2.2.1,it.2.2.1,(0:Int),(0:Int),now,())
   have h2:=UL S w.2.1
   refine Rt.call (P:=fun y=>y=_) ⟨_,wi,rfl⟩ fun y hy=>?_
   subst hy
   refine Rt.val (P:=fun y=>y=(P,())) ⟨_,p1,rfl⟩ fun y hy e3=>?_
   subst hy
   refine Rt.val (P:=fun y=>y=(t,())) ⟨_,p2,rfl⟩ fun y hy e4=>?_
   subst hy
   exact Rt.all (by simp only[e3,e4,qu,zU,zl92]) (Rt.ok ⟨⟨_,by dsimp only;omega,rfl⟩,by simp,by simpa using wd _ _ _ _ _⟩)
  ·refine Rt.val (P:=fun y=>y=(P,())) ⟨_,p1,rfl⟩ fun y hy e3=>?_
   subst hy
   refine Rt.val (P:=fun y=>y=(t,())) ⟨_,p2,rfl⟩ fun y hy e4=>?_
   subst hy
   exact Rt.all (by simp only[e3,e4,qu,zU,zl92]) (Rt.ok (same (wd _ _ _ _ _)))
def afl (I:EO S now)(C:BL (cl,fT,()))(hw:0≤w.2.1∧w.2.1≤3):Rt (L8 ((true,now,log,(cl,fT,()),p,bk,S,()),w)) (OpI (true,now,log,(cl,fT,()),p,bk,S,())):=by
 have l4:=adj I
 have hn:=I.len
 unfold L8
 refine Rt.bif (fun _=>Rt.call (ag_ I C hw) fun y hy=>Rt.ok hy) fun _=>?_
 have at_:=adb (true,now,log,(cl,fT,()),p,bk,S,()) hn w.2.1
 refine Rt.call (P:=fun y=>y.1=Cs (svO S w.2.1)) ⟨_,at_,rfl⟩ fun y hy=>?_
 have st:OpI (true,now,log,(cl,fT,()),p,bk,S,()) (((true,now,log,(cl,fT,()),p,bk,S,()),[]),()):=⟨⟨S,by omega,rfl⟩,by simp,by simp⟩
 cases e:svO S w.2.1 with
 |none=>
  rw[e] at hy
  rw[hy]
  exact Rt.all rfl (Rt.bif (fun _=>Rt.ok st) fun hc=>by cases hc)
 |some k=>
  rw[e] at hy
  have hk:=(CE.1 e).1
  have hy:y.1=((k:Nat):Int):=hy
  rw[hy]
  have dk:decide (((k:Nat):Int)<0)=false:=zdf
  refine Rt.all (by simp only[g0,gl hk,zl99,zU,zl92]) (Rt.bif (fun _=>Rt.ok st) fun _=>?_)
  refine Rt.box q37_v (P:=fun y=>∃S',S'.length≤1000∧((∃z,y = .inl (((),()),z,(true,now,log,(cl,fT,()),p,bk,(),()),[],[],[],[],S'))∨(∃z,y = .inr (((),()),z,(true,now,log,(cl,(),()),((),p.2),(),(),()),[],[],[],[],fT,p.1,bk,S')))) ?_ fun y hy=>?_
  ·unfold q37
   refine Rt.bif (fun _=>?_) fun _=>?_
   ·have wo_:=Ru (true,now,log,(cl,fT,()),p,bk,S,()) hn w.2.1
    have:=UL S w.2.1
    refine Rt.call (P:=fun y=>y=_) ⟨_,wo_,rfl⟩ fun y hy=>?_
    subst hy
    exact Rt.ok ⟨_,by dsimp only;omega,.inl ⟨_,rfl⟩⟩
   ·refine Rt.all (by simp only[g0,gl hk,zl99,zU,zl92]) (Rt.bif (fun _=>Rt.all (by simp only[g0,gl hk,zU,zl92]) (Rt.ok ⟨_,?_,.inr ⟨_,rfl⟩⟩)) fun _=>Rt.ok ⟨S,by omega,.inr ⟨_,rfl⟩⟩)
    dsimp only;rw[zl66];omega
  ·obtain⟨S',h1,⟨z,rfl⟩|⟨z,rfl⟩⟩:=hy
   ·exact Rt.sum (fun y e=>by cases e;exact Rt.ok ⟨⟨S',h1,rfl⟩,by simp,by simp⟩) fun y e=>by cases e
   ·exact Rt.sum (fun y e=>by cases e) fun y e=>by cases e;exact Rt.ok ⟨⟨S',h1,rfl⟩,by simp,by simp⟩
end
def afk {s:b7.D}(Sm:CQ s){w:eL.D}(hw:El w=true):Rt (q32 (s,w)) HrI:=by
 have so:=MZ s Sm
 have sz:=RR hw
 unfold q32
 refine Rt.call (P:=fun y=>y.1=AQ s) ⟨_,so,rfl⟩ fun y hy=>Rt.bif (fun _=>Rt.ok (hr0 Pr)) fun hc=>?_
 rw[hy] at hc
 have ok:AQ s=true:=by simpa using hc
 have C:=(EY ok).len
 have sc:=MY s Sm (by omega)
 refine Rt.call (P:=fun y=>y=(s,())) ⟨_,sc,rfl⟩ fun y hy=>?_
 subst hy
 have a:=O6 w (by omega)
 refine Rt.val (P:=fun y=>y.1=El w) ⟨_,a,rfl⟩ fun y hw2 e1=>?_
 refine Rt.all (by simp only[e1,qu,zU,zl99]) (Rt.bif (fun _=>Rt.ok (hr0 (OZ Sm ok))) fun hc=>?_)
 obtain⟨up,now,log,⟨cl,fT,cu⟩,p,bk,S,u⟩:=s
 cases up with
 |false=>cases hc
 |true=>
 rw[hw2,hw] at hc
 have h4:w.2.1<4:=by simpa using hc
 have S1:S.length≤1048576:=Sm.Ay
 have I:=ok_srv ok (by omega)
 refine Rt.call (afl I (EY ok) ⟨sz.2.1.1,by show w.2.1≤3;omega⟩) fun y hy=>?_
 obtain⟨⟨S',h1,h2⟩,h3,h5⟩:=hy
 refine Rt.ok ⟨?_,h3,h5⟩
 rw[h2]
 have:fT.length≤8:=C
 exact⟨⟨Sm.log,Sm.cat,Sm.items,Sm.GY,Sm.bks,by show S'.length≤_;omega⟩,by show fT.length≤_;omega,by have:log.length≤9000:=F0 ok;show log.length≤_;omega⟩
end Pl
