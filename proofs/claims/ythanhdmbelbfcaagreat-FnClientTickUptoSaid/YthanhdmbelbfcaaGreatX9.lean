import Derived.Test.YthanhdmbelbfcaaGreatX8
set_option linter.defProp false
namespace Wh
end Wh
open Wh
open Go Go.Ab Go.Lib
namespace Pl
def adx (L s c:Nat)(h2:L≤300)(h3:1≤s)(h4:s≤13)(h5:(L+s-1) / s=c):Bd (DW L s c)=some ((c:Int),()):=by
 have e:=fun W ws=>count_eq (L:Int) (s:Int) W ws () (by omega)
 rw[OB L s (by omega) h3 (by omega),h5] at e
 unfold DW
 cases decide ((c+3) / 4<c)<;>exact e _ _
def apl (L s c id:Nat)(h2:L≤300)(h3:1≤s)(h4:s≤13)(h5:(L+s-1) / s=c)(h6:1≤c)(h7:c≤24)(hid:id≤9999):E9 (DW L s c,(id:Int))=some (DO c id,()):=by
 have ec:=adx L s c h2 h3 h4 h5
 by_cases hc:id<c
 ·have d:decide ((id:Int)<(c:Int))=true:=zdt
  simp only[E9,ec,zov ec,Ft,zU,dW,d,DO,bQ hc]
 ·have d:decide ((id:Int)<(c:Int))=false:=zdf
  have w:=UE c id h6
  have n1:=P8 id (by omega)
  have er:=agR (Mc c id) id w.1 (by omega) (by omega)
  have ew:Gy (DW L s c,(id:Int))=some ((Mc c id:Int),()):=by
   unfold DW Mc
   have sl:=Nv id
   generalize nW id=S at *
   by_cases hk:(c+3) / 4<c
   ·have p1:Eh ((S:Int),5)=some ((BO S 5:Int),()):=P9 _ 5 sl (by decide)
    have pl:=Lo S 5 (by decide)
    generalize BO S 5=K at *
    have c1:=apK (L:Int) (s:Int) (((c+3) / 4:Nat):Int) (c:Int) (id:Int)
    have c2:=aqa (L:Int) (s:Int) (((c+3) / 4:Nat):Int) (c:Int) K pl
    rw[zl86 hk,dW,bQ hk]
    simp only[Gy,cb c1,cv c1,n1,zov n1,p1,zov p1,Aw,cb c2,cv c2]
    split<;>rfl
   ·have p1:Eh ((S:Int),1)=some ((BO S 1:Int),()):=P9 _ 1 sl (by decide)
    have pl:=Lo S 1 (by decide)
    generalize BO S 1=K at *
    obtain rfl:K=0:=by omega
    have c1:=apJ (L:Int) (s:Int) (c:Int) (id:Int)
    have c2:=ap_ (L:Int) (s:Int) (c:Int)
    rw[zl90 hk,pO,cT hk]
    simp only[Gy,cb c1,cv c1,n1,zov n1,p1,zov p1,Aw,Int.natCast_zero,cb c2,cv c2]
  simp only[E9,ec,zov ec,Aw,pO,d,DO,cT hc,ew,zov ew,er,zov er]
def YH (l:List Int):(tv l).length=l.length:=by simp[tv]
def ajz:∀(d n k m:Nat),n≤500→n<2 ^ d→k*2 ^ d≤1024→m+n*k≤1024 →
  Comes LB (((n:Int),List.replicate k (0:UInt8),List.replicate m (0:UInt8)),()) (List.replicate (m+n*k) (0:UInt8),()):=by
 intro d
 induction d with
 |zero=>
  intro n k m h0 h1 h2 h3
  obtain rfl:n=0:=by omega
  rw[Nat.zero_mul,zl50]
  exact .out rfl
 |succ d ih=>
  intro n k m h0 h1 h2 h3
  by_cases hn:n=0
  ·subst hn;rw[Nat.zero_mul,zl50];exact .out rfl
  rw[Nat.pow_succ] at h1 h2
  have hp:1≤2 ^ d:=Nat.one_le_two_pow
  have e0:decide ((n:Int)>0)=true:=zdt
  have e1:Int.tmod (n:Int) 2=((n % 2:Nat):Int):=Qe n 2
  have e2:IntKind.wrap .i64 (Int.tdiv (n:Int) 2)=((n / 2:Nat):Int):=Fe (Qb n 2) (by omega)
  have ek:k≤1024:=nV (Nat.le_mul_of_pos_right k (Nat.mul_pos hp (by omega))) h2
  have b1:decide ((List.replicate k (0:UInt8)).length+(List.replicate k (0:UInt8)).length≤eV)=true:=by
   rw[zl67];unfold eV;exact zdt
  have ekk:List.replicate k (0:UInt8)++List.replicate k (0:UInt8)=List.replicate (k+k) (0:UInt8):=List.replicate_append_replicate
  have em:List.replicate m (0:UInt8)++List.replicate k (0:UInt8)=List.replicate (m+k) (0:UInt8):=List.replicate_append_replicate
  have hk2:(k+k)*2 ^ d≤1024:=by rw[←Nat.two_mul,Nat.mul_comm 2 k,Nat.mul_assoc,Nat.mul_comm 2];exact h2
  have hd:n / 2<2 ^ d:=by omega
  by_cases ho:n % 2=1
  ·have hnk:n*k=(n / 2)*(k+k)+k:=by
    rw[←Nat.two_mul,←Nat.mul_assoc]
    have:n=n / 2*2+1:=by omega
    rw[←Nat.succ_mul];congr 1
   have b2:decide ((List.replicate m (0:UInt8)).length+(List.replicate k (0:UInt8)).length≤eV)=true:=by
    rw[zl67,zl67];unfold eV;exact zdt
   have:=ih (n / 2) (k+k) (m+k) (by omega) hd hk2 (by omega)
   rw[show m+k+n / 2*(k+k)=m+n*k by omega] at this
   refine .again ?_ this
   simp only[LB,e0,e1,e2,ho,b1,b2,ekk,em,dW,zU,Int.cast_ofNat_Int,zl95]
  ·have hnk:n*k=(n / 2)*(k+k):=by
    rw[←Nat.two_mul,←Nat.mul_assoc];congr 1;omega
   have:=ih (n / 2) (k+k) m (by omega) hd hk2 (by omega)
   rw[←hnk] at this
   refine .again ?_ this
   have ez:n % 2=0:=by omega
   have:(((0:Nat):Int)==1)=false:=rfl
   simp only[LB,e0,e1,e2,ez,b1,ekk,dW,pO,zU,this]
def agU (n:Nat)(h:n≤500):JX (tv [(0:Int)],(n:Int))=some (List.replicate n 0,()):=by
 have c:=ajz 10 n 1 0 h (by omega) (by omega) (by omega)
 rw[lA,Nat.mul_one] at c
 have c':Comes LB (((n:Int),tv [(0:Int)],[]),()) _:=c
 simp only[JX,cb c',cv c',dW,ld]
def agV (n:Nat)(h:n≤500):Iy (n:Int)=some (List.replicate n 0,()):=by
 have e:=agU n h
 simp only[Iy,e,zov e,Ft,zU,dW]
def xI (a b:List UInt8)(i:Nat):Int:=pZ Go.BinOp.xor Go.IntKind.u8 ((a.getD i 0).toNat:Int) ((b.getD i 0).toNat:Int)
def xL (a b:List UInt8)(i:Nat):List Int:=(List.range i).map (xI a b)
def ahg (a b:List UInt8)(i:Nat):(xL a b i).length=i:=by simp[xL]
def aqh (a b:List UInt8)(i:Nat):xL a b (i+1)=xL a b i ++ [xI a b i]:=by simp[xL,List.range_succ]
def Ff (a b:List UInt8):List UInt8:=tv (xL a b a.length)
def YY (a b:List UInt8):(Ff a b).length=a.length:=by rw[Ff,YH,ahg]
def YD (a b:List UInt8)(h:a.length=b.length)(hl:a.length≤1000):Fx (a,b)=some (Ff a b,()):=by
 have c:=Bw (r:=Lx) (fun i=>(((i:Int),b,a,()),xL a b i)) (n:=a.length) (y:=((),xL a b a.length)) (by
  intro i hi
  have hr:decide (i+1≤eV)=true:=by unfold eV;exact zdt
  have hb:i<b.length:=by omega
  simp only[Lx,gl hi,gl hb,g0,ahg,hr,dW,zU,zl92,zl94,zw (i:=i),aqh,xI]) (by
  have:decide ((a.length:Int)<(a.length:Int))=false:=zdf
  simp only[Lx,this,pO]) 0 (by omega)
 have c':Comes Lx (((0:Int),b,a,()),[]) _:=c
 simp only[Fx,cb c',cv c',dW,Ff,ld]
def HE (s:Nat)(bl:List (List UInt8))(row:List Int):List UInt8:=row.foldl (fun o x=>Ff o (bl.getD x.toNat [])) (List.replicate s 0)
def ag1 (s:Nat)(bl:List (List UInt8))(row:List Int):(HE s bl row).length=s:=by
 unfold HE
 have:∀(r:List Int) (o:List UInt8),o.length=s→(r.foldl (fun o x=>Ff o (bl.getD x.toNat [])) o).length=s:=by
  intro r
  induction r with
  |nil=>intro o h;exact h
  |cons x r ih=>intro o h;exact ih _ (by rw[YY,h])
 exact this row _ zl67
def apL (s:Nat)(bl:List (List UInt8))(row:List Int)(i:Nat)(h:i<row.length):HE s bl (row.take (i+1))=Ff (HE s bl (row.take i)) (bl.getD (row.getD i 0).toNat []):=by
 unfold HE
 rw[zl88 h,List.foldl_append,getD_eq _ _ _ h];rfl
structure Bls (s:Nat) (bl:List (List UInt8)) (row:List Int):Prop where
 s1:1≤s
 s2:s≤13
 sz:∀x∈bl,x.length=s
 n1:1≤bl.length
 n2:bl.length≤24
 mem:∀x∈row,0≤x∧x<(bl.length:Int)
 AM:row.Pairwise (· < ·)
 len:row.length≤24
def Bls.at {s:Nat}{bl:List (List UInt8)}{row:List Int}(B:Bls s bl row){i:Nat}(h:i<row.length):0≤row.getD i 0∧row.getD i 0<(bl.length:Int)∧(bl.getD (row.getD i 0).toNat []).length=s:=by
 have m:=B.mem (row.getD i 0) (by rw[getD_eq _ _ _ h];exact zl96 h)
 refine⟨m.1,m.2,?_⟩
 have hk:(row.getD i 0).toNat<bl.length:=by omega
 rw[getD_eq _ _ _ hk]
 exact B.sz _ (zl96 hk)
def apk {s:Nat}{bl:List (List UInt8)}{row:List Int}(B:Bls s bl row):IJ (bl,row,(s:Int))=some (HE s bl row,()):=by
 have hz:=agU s (by have:=B.s2;omega)
 have c:=Bw (r:=LJ) (fun i=>(((i:Int),row,bl,HE s bl (row.take i)),())) (n:=row.length) (y:=(HE s bl row,())) (by
  intro i hi
  obtain⟨m1,m2,m3⟩:=B.at hi
  have hx:=YD (HE s bl (row.take i)) (bl.getD (row.getD i 0).toNat []) (by rw[ag1,m3]) (by rw[ag1];have:=B.s2;omega)
  have hl:=B.len
  have d1:=zl86 m1
  have d2:=zl86 m2
  simp only[LJ,gl hi,g0,zl94,hx,zov hx,d1,d2,Aw,zw (i:=i),apL _ _ _ _ hi]) (by
  have:decide ((row.length:Int)<(row.length:Int))=false:=zdf
  simp only[LJ,this,pO,zl102,ld]) 0 (by omega)
 have c':Comes LJ (((0:Int),row,bl,List.replicate s 0),()) _:=c
 simp only[IJ,hz,zov hz,Ft,zU,dW,cb c',cv c']
def als (L s c:Nat):(DW L s c).1=(L:Int):=by unfold DW;cases decide ((c+3) / 4<c)<;>rfl
def ady (L s c:Nat):(DW L s c).2.1=(s:Int):=by unfold DW;cases decide ((c+3) / 4<c)<;>rfl
def OC (s:Nat)(al:List UInt8)(i:Nat):List UInt8:=(al.drop (i*s)).take s
def ER (s:Nat)(al:List UInt8)(i:Nat):List (List UInt8):=(List.range i).map (OC s al)
def Ss (s:Nat)(al:List UInt8)(i:Nat):(ER s al i).length=i:=by simp[ER]
def ahN (s:Nat)(al:List UInt8)(i:Nat):ER s al (i+1)=ER s al i ++ [OC s al i]:=by simp[ER,List.range_succ]
def ahM {s:Nat}{al:List UInt8}{c:Nat}(h:al.length=c*s){x:List UInt8}(hx:x∈ER s al c):x.length=s:=by
 obtain⟨i,hi,rfl⟩:=gG.1 hx
 have hi:=List.mem_range.1 hi
 unfold OC
 rw[zl3,zl4,h]
 have:(i+1)*s≤c*s:=gH s (by omega)
 rw[Nat.succ_mul] at this
 omega
def HR (c s:Nat)(t:List UInt8):List UInt8:=t++List.replicate (c*s-t.length) 0
def ZT (c s:Nat)(t:List UInt8)(h:t.length≤c*s):(HR c s t).length=c*s:=by simp[HR];omega
def aac (L s c:Nat)(h3:1≤s)(h5:(L+s-1) / s=c):L≤c*s∧c*s≤L+s-1:=by
 subst h5
 have h1:=Nat.div_mul_le_self (L+s-1) s
 have h2:=Nat.lt_div_mul_add (a:=L+s-1) (b:=s) (by omega)
 omega
def wMul {a b:Nat}(ha:a≤1000)(hb:b≤1000):IntKind.wrap .i64 ((a:Int)*(b:Int))=((a*b:Nat):Int):=by
 have:a*b≤1000*1000:=Nat.mul_le_mul ha hb
 exact Fe (by simp) (by omega)
def ahO (al:List UInt8)(i s:Nat):List.take (Int.toNat ((((i+1)*s:Nat):Int)-((i*s:Nat):Int))) (List.drop (Int.toNat ((i*s:Nat):Int)) al)=OC s al i:=by
 unfold OC
 rw[show Int.toNat ((((i+1)*s:Nat):Int)-((i*s:Nat):Int))=s by rw[Nat.succ_mul];omega,zl94]
def ao6 (L s c:Nat)(t:List UInt8)(hL:t.length=L)(h2:L≤300)(h3:1≤s)(h4:s≤13)(h5:(L+s-1) / s=c)(h7:c≤24) :
  Kc (DW L s c,t)=some (ER s (HR c s t) c,()):=by
 have ec:=adx L s c h2 h3 h4 h5
 have cl:=aac L s c h3 h5
 have pz:=ady L s c
 generalize DW L s c=P at *
 have w1:IntKind.wrap .i64 (IntKind.wrap .i64 ((c:Int)*(s:Int))-(t.length:Int))=((c*s-t.length:Nat):Int):=by
  rw[wMul (by omega) (by omega)];exact Fe (by omega) (by omega)
 have ez:=agV (c*s-t.length) (by omega)
 have al:=ZT c s t (by omega)
 have b1:decide (t.length+(List.replicate (c*s-t.length) (0:UInt8)).length≤eV)=true:=by
  rw[zl67];unfold eV;exact zdt
 have ea:t++List.replicate (c*s-t.length) 0=HR c s t:=rfl
 generalize HR c s t=A at *
 have cm:=Bw (r:=LN) (fun i=>(((i:Int),(),A,()),P,ER s A i)) (n:=c) (y:=((),ER s A c)) (by
  intro i hi
  have m1:=wMul (a:=i) (b:=s) (by omega) (by omega)
  have m2:=wMul (a:=i+1) (b:=s) (by omega) (by omega)
  have m3:(i+1)*s≤c*s:=gH s (by omega)
  have m4:i*s≤(i+1)*s:=gH s (by omega)
  have d1:decide (((i*s:Nat):Int)≤(((i+1)*s:Nat):Int))=true:=zdt
  have d2:decide ((((i+1)*s:Nat):Int)≤(A.length:Int))=true:=zdt
  have b2:decide (i+1≤eV)=true:=by unfold eV;exact zdt
  simp only[LN,ec,zov ec,gl hi,pz,zw (i:=i),m1,m2,d1,d2,g0,Ss,b2,Aw,ahO,ahN]) (by
  have:decide ((c:Int)<(c:Int))=false:=zdf
  simp only[LN,ec,zov ec,Ft,this,zU,dW,pO]) 0 (by omega)
 have cm':Comes LN (((0:Int),(),A,()),P,[]) _:=cm
 simp only[Kc,ec,zov ec,pz,w1,ez,zov ez,b1,ea,Aw,cb cm',cv cm']
def symV (s c id:Nat)(t:List UInt8):List UInt8:=HE s (ER s (HR c s t) c) (DO c id)
def symBls (L s c id:Nat)(t:List UInt8)(hL:t.length=L)(h3:1≤s)(h4:s≤13)(h5:(L+s-1) / s=c)(h6:1≤c)(h7:c≤24):Bls s (ER s (HR c s t) c) (DO c id):=by
 have cl:=aac L s c h3 h5
 have rl:=agz (id:=id) h6
 refine⟨h3,h4,fun x hx=>ahM (ZT c s t (by omega)) hx,by rw[Ss];exact h6,by rw[Ss];exact h7,fun x hx=>?_,aoV h6,by omega⟩
 rw[Ss];exact agA h6 hx
def apm (L s c id:Nat)(t:List UInt8)(hL:t.length=L)(h3:1≤s)(h4:s≤13)(h5:(L+s-1) / s=c)(h6:1≤c)(h7:c≤24) :
  IJ (ER s (HR c s t) c,DO c id,(s:Int))=some (symV s c id t,()):=apk (symBls L s c id t hL h3 h4 h5 h6 h7)
def OG (e:Int)(f:Fr):Bool:=bif f.2.1==e then f.2.2.2.1==0 else false
def Fo (e:Int)(f:Fr)(_:Int):Fr:=bif OG e f then zF else f
def Gj (_:Fr):Nat:=0
def OH (l:List Fr)(e:Int):List Fr:=Ec (Fo e) Gj l 0
def WM (p:Po)(e:Int):Po:=(OH p.1 e,p.2)
def drop_set (l:List Fr)(e:Int)(i:Nat)(hi:i<l.length):(bif OG e l[i] then(part (Fo e) Gj 0 l i).set i zF else part (Fo e) Gj 0 l i)=part (Fo e) Gj 0 l (i+1):=by
 have h:=aln (Fo e) Gj 0 l i hi
 have g:=adk (Fo e) Gj 0 l i zF hi
 have pl:=adl (Fo e) Gj 0 l i (by omega)
 rw[getD_eq _ _ _ (by omega)] at g
 rw[←h]
 have k:∀j,Fo e l[i] j=bif OG e l[i] then zF else l[i]:=fun _=>rfl
 rw[k]
 cases hd:OG e l[i] with
 |true=>rfl
 |false=>
  simp only[pO]
  rw[←g]
  exact(List.set_getElem_self (by omega)).symm
def ao_ (p:Po)(e:Int)(h:KR p):q89 (p,e)=some (WM p e,()):=by
 have hl:p.1.length≤1048576:=h
 have a:=Ug p h
 have q:=Bw (r:=LZ) (st:=fun i=>(((i:Int),(),e,()),((),p.2),((),(0:Int),()),part (Fo e) Gj 0 p.1 i,[])) (n:=p.1.length) (y:=(((),()),((),(0:Int),()),((),p.2),[],OH p.1 e)) ?_ ?_ 0 (lB _)
 ·have q':Comes LZ (((0:Int),(),e,()),((),p.2),((),(0:Int),()),p.1,[]) (((),()),((),(0:Int),()),((),p.2),[],OH p.1 e):=by
   have z:=alo (Fo e) Gj 0 p.1
   rw[z] at q;exact q
  simp only[q89,a,zov a,cb q',cv q',qu,zU,dW,WM]
 ·intro i hi
  have w:=A5 (i:=i) (by omega)
  have pl:=adl (Fo e) Gj 0 p.1 i (by omega)
  have g:=adk (Fo e) Gj 0 p.1 i zF hi
  have d:=drop_set p.1 e i hi
  rw[←d]
  unfold zF at g ⊢
  simp only[LZ,pl,gl hi,g0,zl94,g,w,zl99,zU,zl92,dW]
  unfold OG
  cases (bif p.1[i].2.1==e then p.1[i].2.2.2.1==0 else false)<;>rfl
 ·have d1:decide ((p.1.length:Int)<(p.1.length:Int))=false:=zdf
  simp only[LZ,alm,MZ,d1,pO]
  rfl
noncomputable def Uj (s:b7.D) (h:Int) (n:List UInt8):b7.D×Int:=
 bif !s.1 then(s,1) else match C7 s.2.2.2.1.2.1 h n with
  |none=>(s,3)
  |some i=>bif !(wX s.2.2.1 (tn h n [])).2 then(s,4) else
   ((s.1,s.2.1,(wX s.2.2.1 (tn h n [])).1,(FR s.2.2.2.1 h n).1,WM s.2.2.2.2.1 (s.2.2.2.1.2.1.getD i z0).2.2.1,s.2.2.2.2.2),0)
noncomputable def L6 (s:b7.D) (h:Int) (n:List UInt8):b7.D×Int:=bif !AJ s then(C6,1) else Uj s h n
def Wq {l:List It}{h:Int}{n:List UInt8}{i:Nat}(e:C7 l h n=some i):i<l.length∧(l.getD i z0).1=h∧(l.getD i z0).2.1=n:=by
 obtain⟨h1,h2,_⟩:=CA.1 e
 simp only[bB,zl78] at h2
 exact⟨h1,h2.1,h2.2⟩
def apP {c:Ct}(I:BF c){h:Int}{n:List UInt8}{i:Nat}(e:C7 c.2.1 h n=some i):Dw h n []=true:=by
 obtain⟨h1,h2,h3⟩:=Wq e
 have hm:c.2.1.getD i z0∈c.2.1:=by rw[getD_eq _ _ _ h1];exact zl96 h1
 obtain⟨p1,p2,p3⟩:=JL (I.ok _ hm)
 rw[h2] at p1
 rw[h3] at p2
 unfold Dw
 rw[zl86 p1,p2];rfl
def apn (s:b7.D)(S:CM s)(h:Int)(n:List UInt8)(hn:n.length≤9999999):IM (s,h,n)=some (L6 s h n,()):=by
 have a:=Nx s S
 unfold L6
 cases ho:AJ s with
 |false=>
  rw[ho] at a
  simp only[IM,a,zov a,qu,zU,dW,zl98,C6]
 |true=>
 rw[ho] at a
 have I:=EY ho
 have h8:=I.len
 have hl:=Gi ho
 have b:=Nw s S (by omega)
 have c1:=P7 s.2.2.2.1 h n (by omega)
 have c2:=Ox s.2.2.2.1 I
 have d:=P_ h n [] hn (by simp)
 have hrl:=Yq (h:=h) (n:=n) (t:=[])
 have e:=YB s.2.2.1 (tn h n []) (by omega) (by omega)
 have f:=SZ s.2.2.2.1 I (tn h n []) (by omega)
 have g:Fz (s,tn h n [])=some (bif !(wX s.2.2.1 (tn h n [])).2 then(s,4) else bif !(CN s.2.2.2.1 (tn h n [])).2 then(s,1) else((s.1,s.2.1,(wX s.2.2.1 (tn h n [])).1,(CN s.2.2.2.1 (tn h n [])).1,s.2.2.2.2),0),()):=by
  simp only[Fz,e,zov e,f,zov f,qu,zU,dW]
  cases (wX s.2.2.1 (tn h n [])).2<;>cases (CN s.2.2.2.1 (tn h n [])).2<;>rfl
 unfold Uj
 cases dJ:C7 s.2.2.2.1.2.1 h n with
 |none=>
  rw[dJ] at c1
  have c:DX (s.2.2.2.1,h,n)=some ((((0:Int),[],(0:Int),[],()),false),()):=by
   simp only[DX,c1,zov c1,c2,zov c2,qu,zU,dW,zl70,pO,Z5]
  simp only[IM,a,zov a,b,zov b,c,zov c,qu,zU,dW,pO,zl70,zl98]
  cases s.1<;>rfl
 |some i=>
  rw[dJ] at c1
  obtain⟨hi,_,_⟩:=Wq dJ
  have c:DX (s.2.2.2.1,h,n)=some ((s.2.2.2.1.2.1.getD i z0,true),()):=by
   have p1:decide ((0:Int)≤(i:Int))=true:=zdt
   have p2:decide ((i:Int)<(s.2.2.2.1.2.1.length:Int))=true:=zdt
   have p3:decide ((i:Int)<0)=false:=zdf
   simp only[DX,c1,zov c1,c2,zov c2,qu,zU,dW,zl70,pO,Cq,p1,p2,p3,zl94,zl92,z0]
  have k1:=apP I dJ
  have k3:=Sl (c:=s.2.2.2.1) (XZ (agr k1))
  have k4:(FR s.2.2.2.1 h n).2=0:=by unfold FR;rw[dJ]
  rw[bQ rfl,k4] at k3
  rw[k3] at g
  have dr:=ao_ s.2.2.2.2.1 (s.2.2.2.1.2.1.getD i z0).2.2.1 S.G7
  simp only[IM,a,zov a,b,zov b,c,zov c,d,zov d,g,zov g,qu,zU,zl92,dW,pO,zl70,zl95]
  cases s.1 with
  |false=>rfl
  |true=>
  cases (wX s.2.2.1 (tn h n [])).2 with
  |false=>rfl
  |true=>
   simp only[zl70,pO,dr,zov dr,dW]
   rfl
def apO (s:b7.D)(S:CM s)(h:Int)(n:List UInt8):CM (L6 s h n).1:=by
 unfold L6
 cases ho:AJ s with
 |false=>exact HJ
 |true=>
 unfold Uj
 cases s.1 with
 |false=>exact S
 |true=>
 cases C7 s.2.2.2.1.2.1 h n with
 |none=>exact S
 |some i=>
 cases ha:(wX s.2.2.1 (tn h n [])).2 with
 |false=>exact S
 |true=>
  have k:=agG S (u:=true) (KS _ _ ha) (YL _ (EY ho) h n)
  refine⟨k.log,k.cat,k.items,?_,k.bks,k.Au⟩
  change (OH s.2.2.2.2.1.1 _).length≤_
  unfold OH
  rw[MZ]
  exact S.G7
def skipB (own:Bool)(h:Int)(f:Fr):Bool:=bif own then bif f.2.1==(0:Int) then true else f.1 != h else false
def UD (own:Bool)(h:Int)(f:Fr):Bool:= !(skipB own h f)&&(!(decide (f.2.2.2.1>(0:Int))) && !f.2.2.2.2.1)
def unuse (f:Fr):Fr:=(f.1,f.2.1,f.2.2.1,f.2.2.2.1,false,f.2.2.2.2.2)
def Qk (own:Bool)(h:Int)(l:List Fr)(k:Nat):List Fr:=
 bif skipB own h (l.getD k zF) then l else bif decide ((l.getD k zF).2.2.2.1>(0:Int)) then l else bif(l.getD k zF).2.2.2.2.1 then l.set k (unuse (l.getD k zF)) else l
def dJ (hd n:Nat):Nat:=(hd+n) % 8
def Bx (own:Bool)(h:Int)(hd:Nat)(l:List Fr):Nat→List Fr
 |0=>l
 |n+1=>Qk own h (Bx own h hd l n) (dJ hd n)
def ap5 (own:Bool)(h:Int)(l:List Fr)(k:Nat):(Qk own h l k).length=l.length:=by
 unfold Qk;cases skipB own h (l.getD k zF)<;>cases decide ((l.getD k zF).2.2.2.1>(0:Int))<;>cases (l.getD k zF).2.2.2.2.1<;>simp
def UC (own:Bool)(h:Int)(hd:Nat)(l:List Fr):∀n,(Bx own h hd l n).length=l.length
 |0=>rfl
 |n+1=>by rw[Bx,ap5,UC own h hd l n]
def Qj (own:Bool)(h:Int)(hd:Nat)(l:List Fr)(n:Nat):Bool:=UD own h ((Bx own h hd l n).getD (dJ hd n) zF)
def NK (own:Bool)(h:Int)(hd:Nat)(l:List Fr):Option Nat:=first 17 (Qj own h hd l)
def aiO {hd:Nat}(h:hd<8):dJ hd 0=hd:=by unfold dJ;omega
def KZ (hd n:Nat):dJ hd n<8:=by unfold dJ;omega
def aa7 (hd n:Nat):Int.tmod (IntKind.wrap .i64 ((dJ hd n:Nat)+1:Int)) 8=((dJ hd (n+1):Nat):Int):=by
 rw[A5 (by have:=KZ hd n;omega)]
 refine(Qe (dJ hd n+1) 8).trans ?_
 unfold dJ;omega
def aps (own:Bool)(h:Int)(hd:Nat)(l:List Fr)(hh:hd<8)(hl:l.length=8) :
  Comes Kh (((0:Int),(),(),h,own),((),(hd:Int),()),((),(0:Int),()),l,[])
   (match NK own h hd l with
    |some n=>.inl (((),(dJ hd n:Int)),((),(dJ hd (n+1):Int),()),Bx own h hd l n)
    |none=>.inr (((),()),((),(0:Int),()),((),(dJ hd 17:Int),()),[],Bx own h hd l 17)):=by
 have c:=Em (r:=Kh) (fun n=>(((n:Int),(),(),h,own),((),(dJ hd n:Int),()),((),(0:Int),()),Bx own h hd l n,[])) (n:=17) (p:=Qj own h hd l)
  (yt:=fun n=>.inl (((),(dJ hd n:Int)),((),(dJ hd (n+1):Int),()),Bx own h hd l n)) (yn:=.inr (((),()),((),(0:Int),()),((),(dJ hd 17:Int),()),[],Bx own h hd l 17)) (by
   intro n hn hp
   have ll:=UC own h hd l n
   have ha:=KZ hd n
   have g1:dJ hd n<(Bx own h hd l n).length:=by omega
   have g2:decide ((n:Int)<17)=true:=zdt
   simp only[Qj] at hp
   simp only[Bx]
   generalize Bx own h hd l n=L at *
   unfold UD skipB at hp
   unfold Qk skipB unuse
   unfold zF at hp ⊢
   simp only[Kh,g2,zl94,gl g1,g0,zU,zl92,dW,aa7,zw (i:=n)]
   cases h1:(bif own then bif(List.getD L (dJ hd n) ((0:Int),(0:Int),(0:Int),(0:Int),false,())).2.1==(0:Int) then true else(List.getD L (dJ hd n) ((0:Int),(0:Int),(0:Int),(0:Int),false,())).1 != h else false)
   ·cases h2:decide ((List.getD L (dJ hd n) ((0:Int),(0:Int),(0:Int),(0:Int),false,())).2.2.2.1>(0:Int))
    ·cases h3:(List.getD L (dJ hd n) ((0:Int),(0:Int),(0:Int),(0:Int),false,())).2.2.2.2.1
     ·rw[h1,h2,h3] at hp;cases hp
     ·simp only[dW,pO]
    ·simp only[dW,pO]
   ·simp only[dW]) (by
   intro n hn hp
   have ll:=UC own h hd l n
   have ha:=KZ hd n
   have g1:dJ hd n<(Bx own h hd l n).length:=by omega
   have g2:decide ((n:Int)<17)=true:=zdt
   simp only[Qj] at hp
   generalize Bx own h hd l n=L at *
   unfold UD skipB at hp
   unfold zF at hp
   simp only[Kh,g2,zl94,gl g1,g0,zU,zl92,dW,aa7]
   cases h1:(bif own then bif(List.getD L (dJ hd n) ((0:Int),(0:Int),(0:Int),(0:Int),false,())).2.1==(0:Int) then true else(List.getD L (dJ hd n) ((0:Int),(0:Int),(0:Int),(0:Int),false,())).1 != h else false)
   ·cases h2:decide ((List.getD L (dJ hd n) ((0:Int),(0:Int),(0:Int),(0:Int),false,())).2.2.2.1>(0:Int))
    ·cases h3:(List.getD L (dJ hd n) ((0:Int),(0:Int),(0:Int),(0:Int),false,())).2.2.2.2.1
     ·simp only[pO]
     ·rw[h1,h2,h3] at hp;cases hp
    ·rw[h1,h2] at hp;cases hp
   ·rw[h1] at hp;cases hp) (by
   have g2:decide (((17:Nat):Int)<17)=false:=by decide
   simp only[Kh,g2,pO])
 rw[aiO hh] at c
 exact c
def OS (l:List Fr)(e b:Int):Option Nat:=first l.length (fun i=>bif(l.getD i zF).2.1==e then(l.getD i zF).2.2.1==b else false)
def apb (p:Po)(ed bl:Int)(hl:p.1.length≤9999999):q90 (p,ed,bl)=some (Cq (OS p.1 ed bl),()):=by
 obtain⟨l,nx,u⟩:=p
 have hl:l.length≤9999999:=hl
 have q:=Em (r:=Kn) (fun i=>(((i:Int),bl,(),ed),(l,nx,u))) (n:=l.length) (p:=fun i=>bif(l.getD i zF).2.1==ed then(l.getD i zF).2.2.1==bl else false) (yt:=fun i=>.inl ((i:Int),())) (yn:=.inr ((),())) (fun i hi hp=>by
   have hp':(bif(l.getD i zF).2.1==ed then(l.getD i zF).2.2.1==bl else false)=false:=hp
   unfold zF at hp'
   simp only[Kn,gl hi,g0,zl94,hp',zl99,zU,zl92,dW,pO,zw (i:=i)]) (fun i hi hp=>by
   have hp':(bif(l.getD i zF).2.1==ed then(l.getD i zF).2.2.1==bl else false)=true:=hp
   unfold zF at hp'
   simp only[Kn,gl hi,g0,zl94,hp',zl99,zU,zl92,dW]) (by
   have d1:decide ((l.length:Int)<(l.length:Int))=false:=zdf
   simp only[Kn,d1,pO])
 have q':Comes Kn ((0,bl,(),ed),(l,nx,u)) _:=q
 simp only[q90,cb q',cv q',dW,OS,ld]
 cases first l.length (fun i=>bif(l.getD i zF).2.1==ed then(l.getD i zF).2.2.1==bl else false)<;>rfl
def NA (f:Fr):Fr:=(f.1,f.2.1,f.2.2.1,f.2.2.2.1+1,true,f.2.2.2.2.2)
def OT (l:List Fr)(hd:Nat)(h e b:Int):(List Fr×Int×Unit)×Int×Int:=
 match OS l e b with
 |some k=>bif(bif decide ((l.getD k zF).2.2.2.1≥99999) then true else(l.getD k zF).1 != h) then((l,(hd:Int),()),0,3) else((l.set k (NA (l.getD k zF)),(hd:Int),()),(k:Int),0)
 |none=>match NK (decide (nC l h 8≥5)) h hd l with
  |some n=>(((Bx (decide (nC l h 8≥5)) h hd l n).set (dJ hd n) (h,e,b,1,true,()),(dJ hd (n+1):Int),()),(dJ hd n:Int),1)
  |none=>((l,(hd:Int),()),0,2)
def take_set (l:List Fr)(k:Nat)(hk:k<l.length)(hw:(l.getD k zF).2.2.2.1≤99999)(hw0:0≤(l.getD k zF).2.2.2.1)(x:Fr)(hx:x=(Prod.fst (List.getD l k zF),Prod.fst (Prod.snd (List.getD l k zF)),Prod.fst (Prod.snd (Prod.snd (List.getD l k zF))),IntKind.wrap .i64 (Prod.fst (Prod.snd (Prod.snd (Prod.snd (List.getD l k zF))))+(1:Int)),Prod.snd (Prod.snd (Prod.snd (Prod.snd (List.getD l k zF)))))) :
  (l.set k x).set k (Prod.fst (List.getD (l.set k x) k zF),Prod.fst (Prod.snd (List.getD (l.set k x) k zF)),Prod.fst (Prod.snd (Prod.snd (List.getD (l.set k x) k zF))),Prod.fst (Prod.snd (Prod.snd (Prod.snd (List.getD (l.set k x) k zF)))),true,Prod.snd (Prod.snd (Prod.snd (Prod.snd (Prod.snd (List.getD (l.set k x) k zF))))))=l.set k (NA (l.getD k zF)):=by
 rw[aiL _ _ _ _ hk,ao1,hx,NA]
 rw[wrap64 (by omega) (by omega)]
def apc (l:List Fr)(hd:Nat)(h e b:Int)(hh:hd<8)(hl:l.length=8)(hw:∀k,k<8→0≤(l.getD k zF).2.2.2.1∧(l.getD k zF).2.2.2.1≤99999):Hw ((l,(hd:Int),()),h,e,b)=some (OT l hd h e b,()):=by
 have c:=Ug (l,(hd:Int),()) (by unfold KR;simp;omega)
 have f:=apb (l,(hd:Int),()) e b (by simp;omega)
 have o:=agO (l,(hd:Int),()) h (by simp;omega)
 have vc:=aps (decide (nC l h 8≥5)) h hd l hh hl
 simp only[hl] at o
 have eo:decide ((nC l h 8:Int)≥5)=decide (nC l h 8≥5):=by
  by_cases g:nC l h 8≥5
  ·rw[zl86 g,zdt]
  ·rw[zl90 g,zdf]
 unfold OT
 simp only at f
 cases hf:OS l e b with
 |some k=>
  rw[hf] at f
  have hk:k<l.length:=(CA.1 hf).1
  have hkw:=hw k (by omega)
  have d:decide ((k:Int)≥0)=true:=zdt
  have ts:=take_set l k hk hkw.2 hkw.1 _ rfl
  have hks:∀x:Fr,k<(l.set k x).length:=fun x=>by rw[zl66];exact hk
  unfold zF at ts ⊢
  simp only[Hw,c,zov c,f,zov f,Cq,d,zl94,gl hk,zl99,Aw]
  cases (bif decide ((List.getD l k ((0:Int),(0:Int),(0:Int),(0:Int),false,())).2.2.2.1≥99999) then true else(List.getD l k ((0:Int),(0:Int),(0:Int),(0:Int),false,())).1 != h) with
  |true=>rfl
  |false=>
   simp only[pO,gl (hks _),zl92,dW]
   rw[ts]
 |none=>
  rw[hf] at f
  have d:decide ((-1:Int)≥0)=false:=by decide
  have ev:q44 ((l,(hd:Int),()),h)=some (match NK (decide (nC l h 8≥5)) h hd l with
    |some n=>((Bx (decide (nC l h 8≥5)) h hd l n,(dJ hd (n+1):Int),()),(dJ hd n:Int))
    |none=>((Bx (decide (nC l h 8≥5)) h hd l 17,(dJ hd 17:Int),()),(-1:Int)),()):=by
   simp only[q44,o,zov o,Ft,zU,dW,eo,cb vc,cv vc]
   cases NK (decide (nC l h 8≥5)) h hd l<;>rfl
  cases hv:NK (decide (nC l h 8≥5)) h hd l with
  |some n=>
   rw[hv] at ev
   have dn:decide ((dJ hd n:Int)<0)=false:=zdf
   have hn:dJ hd n<(Bx (decide (nC l h 8≥5)) h hd l n).length:=by rw[UC];have:=KZ hd n;omega
   simp only[Hw,c,zov c,f,zov f,Cq,d,ev,zov ev,dn,zl94,gl hn,g0,Aw,pO]
  |none=>
   rw[hv] at ev
   have dn:decide ((-1:Int)<0)=true:=by decide
   simp only[Hw,c,zov c,f,zov f,Cq,d,ev,zov ev,dn,Ft,zU,dW,pO]
structure B8 (l:List Fr) (hd:Nat):Prop where
 len:l.length=8
 hd:hd<8
 ok:∀i,i<8→okF (l.getD i zF)=true
 tw:∀i,i<8→∀k,k<i→D4 l i k=false
 c0:nC l 0 8≤5
 c1:nC l 1 8≤5
def alw {p:Po}(h:JK p=true):∃hd:Nat,p=(p.1,(hd:Int),())∧B8 p.1 hd:=by
 obtain⟨l,n,u⟩:=p
 unfold JK at h
 simp only[bB,zl78,mS] at h
 obtain⟨⟨h1,h2⟩,h3,h4,h5⟩:=h
 have h2:=zl79 h2
 have hr:=we.1 h3
 refine⟨n.toNat,by rw[show((n.toNat:Nat):Int)=n by omega],h1,by omega,fun i hi=>?_,fun i hi k hk=>?_,h4,h5⟩
 ·have:=hr i hi;unfold I4 at this;rw[bB] at this;exact this.1
 ·have:=hr i hi;unfold I4 at this;rw[bB] at this
  have:=we.1 this.2 k hk
  simpa using this
def B8.v {l:List Fr}{hd:Nat}(G:B8 l hd):JK (l,(hd:Int),())=true:=by
 have h:=G.hd
 have e:nc (hd:Int) 0 7=true:=zdt
 have r:mw 8 (I4 l)=true:=we.2 fun i hi=>by
  unfold I4
  rw[G.ok i hi,zl108]
  exact we.2 fun k hk=>by rw[G.tw i hi k hk];rfl
 unfold JK
 simp only[G.len,zl95,e,r,zl86 G.c0,zl86 G.c1,zl92]
def B8.at {l:List Fr}{hd:Nat}(G:B8 l hd){hd':Nat}(h:hd'<8):B8 l hd':=⟨G.len,h,G.ok,G.tw,G.c0,G.c1⟩
def B8.held {l:List Fr}{hd:Nat}(G:B8 l hd)(k:Nat)(hk:k<8):0≤(l.getD k zF).2.2.2.1∧(l.getD k zF).2.2.2.1≤99999:=by
 have o:=G.ok k hk
 unfold okF at o
 cases e:((l.getD k zF).2.1==0) with
 |true=>
  rw[e,dW] at o
  simp only[bB,zl78] at o
  omega
 |false=>
  rw[e,pO] at o
  simp only[bB] at o
  have:=zl79 o.2
  omega
def Fp (l:List Fr)(k i:Nat)(f:Fr)(hk:k<l.length):(l.set k f).getD i zF=if i=k then f else l.getD i zF:=by
 rw[zl26,List.getElem?_set]
 by_cases h:k=i
 ·subst h;simp[hk]
 ·rw[cT h,cT (Ne.symm h),←zl26]
def DF (h:Int)(f:Fr):Nat:=if(bif decide (f.2.1>0) then f.1==h else false)=true then 1 else 0
def M3 (l:List Fr)(h:Int)(i:Nat):nC l h (i+1)=nC l h i+DF h (l.getD i zF):=rfl
def adb (l:List Fr)(h:Int)(v:Nat)(f:Fr)(hv:v<l.length):∀i,i≤v→nC (l.set v f) h i=nC l h i
 |0,_=>rfl
 |i+1,hi=>by rw[M3,M3,adb l h v f hv i (by omega),Fp _ _ _ _ hv,cT (by omega)]
def Pt (l:List Fr)(h:Int)(v:Nat)(f:Fr)(hv:v<l.length):∀i,v<i→nC (l.set v f) h i+DF h (l.getD v zF)=nC l h i+DF h f
 |0,hi=>by omega
 |i+1,hi=>by
  rw[M3,M3,Fp _ _ _ _ hv]
  by_cases e:i=v
  ·subst e;rw[bQ rfl,adb l h i f hv i (bA _)];omega
  ·rw[cT e]
   have:=Pt l h v f hv i (by omega)
   omega
def SK (f g:Fr):Prop:=f.1=g.1∧f.2.1=g.2.1∧f.2.2.1=g.2.2.1
def Xg {h:Int}{f g:Fr}(s:SK f g):DF h f=DF h g:=by unfold DF;rw[s.1,s.2.1]
def ap0 {l m:List Fr}{i k:Nat}(a:SK (l.getD i zF) (m.getD i zF))(b:SK (l.getD k zF) (m.getD k zF)):D4 l i k=D4 m i k:=by
 unfold D4;rw[a.2.1,a.2.2,b.2.1,b.2.2]
def B8.same {l:List Fr}{hd:Nat}(G:B8 l hd){k:Nat}(hk:k<8){f:Fr}(ho:okF f=true)(s:SK f (l.getD k zF)):B8 (l.set k f) hd:=by
 have hk':k<l.length:=by rw[G.len];exact hk
 have sk:∀i,SK ((l.set k f).getD i zF) (l.getD i zF):=fun i=>by
  rw[Fp _ _ _ _ hk']
  by_cases e:i=k
  ·subst e;rw[bQ rfl];exact s
  ·rw[cT e];exact⟨rfl,rfl,rfl⟩
 refine⟨by rw[zl66];exact G.len,G.hd,fun i hi=>?_,fun i hi j hj=>?_,?_,?_⟩
 ·rw[Fp _ _ _ _ hk']
  by_cases e:i=k
  ·rw[bQ e];exact ho
  ·rw[cT e];exact G.ok i hi
 ·rw[ap0 (sk i) (sk j)];exact G.tw i hi j hj
 ·have:=Pt l 0 k f hk' 8 hk;rw[Xg s] at this;have:=G.c0;omega
 ·have:=Pt l 1 k f hk' 8 hk;rw[Xg s] at this;have:=G.c1;omega
def ajN {f:Fr}(h:okF f=true):okF (unuse f)=true:=by
 unfold okF at h ⊢
 unfold unuse
 cases e:(f.2.1==0) with
 |true=>
  rw[e] at h
  simp only[dW] at h ⊢
  simp only[bB,zl78] at h ⊢
  exact⟨h.1,h.2.1,h.2.2.1,h.2.2.2.1,by simp⟩
 |false=>
  rw[e] at h
  simp only[pO] at h ⊢
  exact h
def Jf (l:List Fr):Prop:=∀i,i<8→(l.getD i zF).2.2.2.1=0
structure VicI (l L:List Fr) (hd:Nat):Prop where
 g:B8 L hd
 f:Jf L
 sk:∀i,i<8→SK (L.getD i zF) (l.getD i zF)
def ag9 {l:List Fr}{hd:Nat}(G:B8 l hd)(F:Jf l)(own:Bool)(h:Int):∀n,VicI l (Bx own h hd l n) hd
 |0=>⟨G,F,fun _ _=>⟨rfl,rfl,rfl⟩⟩
 |n+1=>by
  have V:=ag9 G F own h n
  rw[Bx]
  generalize Bx own h hd l n=L at *
  have ha:=KZ hd n
  generalize dJ hd n=a at *
  have set_:VicI l (L.set a (unuse (L.getD a zF))) hd:=by
   have hl:a<L.length:=by rw[V.g.len];exact ha
   refine⟨V.g.same ha (ajN (V.g.ok a ha)) ⟨rfl,rfl,rfl⟩,fun i hi=>?_,fun i hi=>?_⟩
   ·rw[Fp _ _ _ _ hl]
    by_cases e:i=a
    ·rw[bQ e];exact V.f a ha
    ·rw[cT e];exact V.f i hi
   ·rw[Fp _ _ _ _ hl]
    by_cases e:i=a
    ·subst e;rw[bQ rfl];exact V.sk i hi
    ·rw[cT e];exact V.sk i hi
  unfold Qk
  cases skipB own h (L.getD a zF)
  ·cases decide ((L.getD a zF).2.2.2.1>(0:Int))
   ·cases (L.getD a zF).2.2.2.2.1
    ·exact V
    ·exact set_
   ·exact V
  ·exact V
def B8.miss {L:List Fr}{hd:Nat}(G:B8 L hd){h e b:Int}(h1:nc h 0 1=true)(h2:nc e 1 99999=true)(h3:nc b 0 23=true)
  (nf:∀i,i<8→¬((L.getD i zF).2.1=e∧(L.getD i zF).2.2.1=b)) {v:Nat} (hv:v<8) (ho:nC L h 8≥5→DF h (L.getD v zF)=1):B8 (L.set v (h,e,b,1,true,())) hd:=by
 have fJ:v<L.length:=by rw[G.len];exact hv
 have he:=zl79 h2
 have hh:=zl79 h1
 have key:∀i,(L.set v (h,e,b,1,true,())).getD i zF=if i=v then(h,e,b,1,true,()) else L.getD i zF:=fun i=>Fp _ _ _ _ fJ
 refine⟨by rw[zl66];exact G.len,G.hd,fun i hi=>?_,fun i hi j hj=>?_,?_,?_⟩
 ·rw[key]
  by_cases q:i=v
  ·rw[bQ q]
   unfold okF
   have:(e==0)=false:=zl89.2 (by omega)
   simp only[this,pO,h1,h2,h3,zl92,zl108]
   decide
  ·rw[cT q];exact G.ok i hi
 ·unfold D4
  rw[key,key]
  by_cases q:i=v
  ·have qj:¬j=v:=by omega
   rw[bQ q,cT qj]
   have:=nf j (by omega)
   simp only[zdt (p:=e>0),dW]
   by_cases q1:e=(L.getD j zF).2.1
   ·rw[zl78.2 q1,dW,zl89]
    intro q2;exact this ⟨q1.symm,q2.symm⟩
   ·rw[zl89.2 q1];rfl
  ·rw[cT q]
   by_cases qj:j=v
   ·rw[bQ qj]
    have:=nf i hi
    by_cases q1:(L.getD i zF).2.1=e
    ·have q2:¬(L.getD i zF).2.2.1=b:=fun q2=>this ⟨q1,q2⟩
     simp only[zl89.2 q2]
     cases (bif decide ((L.getD i zF).2.1>0) then(L.getD i zF).2.1==e else false)<;>rfl
    ·simp only[zl89.2 q1]
     cases decide ((L.getD i zF).2.1>0)<;>rfl
   ·rw[cT qj];exact G.tw i hi j hj
 ·have s:=Pt L 0 v (h,e,b,1,true,()) fJ 8 hv
  have c:=G.c0
  by_cases q:h=0
  ·subst q
   have i1:DF 0 ((0,e,b,1,true,()):Fr)≤1:=by unfold DF;split<;>omega
   by_cases g:nC L 0 8≥5
   ·rw[ho g] at s;omega
   ·omega
  ·have i1:DF 0 ((h,e,b,1,true,()):Fr)=0:=by
    unfold DF;rw[cT];simp only[zl89.2 q];cases decide (e>0)<;>simp
   omega
 ·have s:=Pt L 1 v (h,e,b,1,true,()) fJ 8 hv
  have c:=G.c1
  by_cases q:h=1
  ·subst q
   have i1:DF 1 ((1,e,b,1,true,()):Fr)≤1:=by unfold DF;split<;>omega
   by_cases g:nC L 1 8≥5
   ·rw[ho g] at s;omega
   ·omega
  ·have i1:DF 1 ((h,e,b,1,true,()):Fr)=0:=by
    unfold DF;rw[cT];simp only[zl89.2 q];cases decide (e>0)<;>simp
   omega
def Nt (f:Fr):Fr:=(f.1,f.2.1,f.2.2.1,f.2.2.2.1-1,f.2.2.2.2)
def apf {l:List Fr}{hd:Nat}(G:B8 l hd)(k:Nat)(hk:k<8)(hh:(l.getD k zF).2.2.2.1=1):q87 ((l,(hd:Int),()),(k:Int))=some (((l.set k (Nt (l.getD k zF)),(hd:Int),()),true),()):=by
 have c:=Ug (l,(hd:Int),()) (by unfold KR;have:=G.len;simp only;omega)
 have o:=agP (l,(hd:Int),()) (by have:=G.len;simp only;omega)
 rw[G.v] at o
 have i:=BU (k:Int) 0 7
 rw[show nc (k:Int) 0 7=true from zdt] at i
 have hk':k<l.length:=by rw[G.len];exact hk
 have z:((1:Int)==0)=false:=rfl
 have w:IntKind.wrap .i64 ((1:Int)-1)=1-1:=by decide
 unfold Nt
 rw[hh]
 unfold zF at hh ⊢
 simp only[q87,o,zov o,c,zov c,i,zov i,hh,z,w,zl94,gl hk',g0,zl70,zl98,zl99,Aw,pO]
def ajM {f:Fr}(h:okF f=true)(h0:f.2.2.2.1=0)(he:f.2.1≠0):okF (NA f)=true:=by
 unfold okF at h ⊢
 unfold NA
 have e:(f.2.1==0)=false:=zl89.2 he
 rw[e] at h
 simp only[pO,e,bB] at h ⊢
 refine⟨h.1,?_⟩
 rw[h0];decide
def ajL {f:Fr}(h:okF f=true)(h0:f.2.2.2.1=1):okF (Nt f)=true:=by
 unfold okF at h ⊢
 unfold Nt
 cases e:(f.2.1==0) with
 |true=>
  rw[e] at h
  simp only[dW,bB,zl78] at h
  omega
 |false=>
  rw[e] at h
  simp only[pO,bB] at h ⊢
  refine⟨h.1,?_⟩
  rw[h0];decide
def aiK {l:List Fr}(k:Nat)(hk:k<l.length)(f:Fr)(h0:f.2.2.2.1=0)(o:∀i,i<8→i≠k→(l.getD i zF).2.2.2.1=0):Jf (l.set k f):=fun i hi=>by
 rw[Fp _ _ _ _ hk]
 by_cases e:i=k
 ·rw[bQ e];exact h0
 ·rw[cT e];exact o i hi e
structure Got (l l':List Fr) (hd' k:Nat):Prop where
 g:B8 l' hd'
 lt:k<8
 one:(l'.getD k zF).2.2.2.1=1
 g':B8 (l'.set k (Nt (l'.getD k zF))) hd'
 f':Jf (l'.set k (Nt (l'.getD k zF)))
def aa5 {l l':List Fr}{hd' k:Nat}(g:B8 l' hd')(hk:k<8)(h:(l'.getD k zF).2.2.2.1=1)(o:∀i,i<8→i≠k→(l'.getD i zF).2.2.2.1=0):Got l l' hd' k:=by
 have hk':k<l'.length:=by rw[g.len];exact hk
 refine⟨g,hk,h,g.same hk (ajL (g.ok k hk) h) ⟨rfl,rfl,rfl⟩,aiK k hk' _ ?_ o⟩
 show(l'.getD k zF).2.2.2.1-1=0
 rw[h]
 rfl
def ade {l m:List Fr}{h:Int}(s:∀i,i<8→SK (l.getD i zF) (m.getD i zF)):∀i,i≤8→nC l h i=nC m h i
 |0,_=>rfl
 |i+1,hi=>by rw[M3,M3,ade s i (by omega),Xg (s i (by omega))]
def got_ok {l:List Fr}{hd:Nat}(G:B8 l hd)(F:Jf l){h e b:Int}(h1:nc h 0 1=true)(h2:nc e 1 99999=true)(h3:nc b 0 23=true) :
  (∃l' hd' k c,OT l hd h e b=((l',((hd':Nat):Int),()),((k:Nat):Int),c)∧(c=0∨c=1)∧Got l l' hd' k)∨(∃f c,OT l hd h e b=((l,(hd:Int),()),f,c)∧(c=2∨c=3)):=by
 have he:=zl79 h2
 unfold OT
 cases hf:OS l e b with
 |some k=>
  obtain⟨k1,k2,k3⟩:=CA.1 hf
  have k8:k<8:=by rw[G.len] at k1;exact k1
  have ke:(l.getD k zF).2.1=e:=by
   cases q:((l.getD k zF).2.1==e) with
   |true=>exact eq_of_beq q
   |false=>rw[q] at k2;cases k2
  simp only
  cases (bif decide ((l.getD k zF).2.2.2.1≥99999) then true else(l.getD k zF).1 != h) with
  |true=>exact .inr ⟨0,3,rfl,.inr rfl⟩
  |false=>
   refine .inl ⟨l.set k (NA (l.getD k zF)),hd,k,0,rfl,.inl rfl,aa5 (G.same k8 (ajM (G.ok k k8) (F k k8) (by omega)) ⟨rfl,rfl,rfl⟩) k8 ?_ fun i hi hne=>?_⟩
   ·rw[Fp _ _ _ _ k1,bQ rfl]
    show(l.getD k zF).2.2.2.1+1=1
    rw[F k k8];rfl
   ·rw[Fp _ _ _ _ k1,cT hne];exact F i hi
 |none=>
  simp only
  cases hv:NK (decide (nC l h 8≥5)) h hd l with
  |none=>exact .inr ⟨0,2,rfl,.inl rfl⟩
  |some n=>
   obtain⟨n1,n2,n3⟩:=CA.1 hv
   have V:=ag9 G F (decide (nC l h 8≥5)) h n
   have nf:∀i,i<8→¬(((Bx (decide (nC l h 8≥5)) h hd l n).getD i zF).2.1=e∧((Bx (decide (nC l h 8≥5)) h hd l n).getD i zF).2.2.1=b):=by
    rintro i hi ⟨q1,q2⟩
    have:=ON.1 hf i (by rw[G.len];exact hi)
    have s:=V.sk i hi
    rw[←s.2.1,←s.2.2,q1,q2] at this
    simp at this
   have ofe:nC (Bx (decide (nC l h 8≥5)) h hd l n) h 8=nC l h 8:=ade V.sk 8 (bA _)
   have ha:=KZ hd n
   unfold Qj at n2
   have ho:nC (Bx (decide (nC l h 8≥5)) h hd l n) h 8≥5→DF h ((Bx (decide (nC l h 8≥5)) h hd l n).getD (dJ hd n) zF)=1:=by
    intro g5
    rw[ofe] at g5
    rw[zl86 g5] at n2 ⊢
    have ok:=V.g.ok (dJ hd n) ha
    rw[zl86 g5] at ok
    generalize (Bx true h hd l n).getD (dJ hd n) zF=f at *
    unfold UD skipB at n2
    simp only[dW] at n2
    cases q:(f.2.1==0) with
    |true=>rw[q] at n2;cases n2
    |false=>
     cases q2:(f.1 != h) with
     |true=>rw[q,q2] at n2;cases n2
     |false=>
      unfold okF at ok
      rw[q,pO] at ok
      simp only[bB] at ok
      have:=zl79 ok.1.1.2
      unfold DF
      rw[bQ]
      rw[zdt (p:=f.2.1>0),dW]
      simpa using q2
   have hl:dJ hd n<(Bx (decide (nC l h 8≥5)) h hd l n).length:=by rw[V.g.len];exact ha
   refine .inl ⟨_,dJ hd (n+1),dJ hd n,1,rfl,.inr rfl,aa5 ((V.g.miss h1 h2 h3 nf ha ho).at (KZ _ _)) ha ?_ fun i hi hne=>?_⟩
   ·rw[Fp _ _ _ _ hl,bQ rfl]
   ·rw[Fp _ _ _ _ hl,cT hne];exact V.f i hi
section
variable (up:Bool) (now:Int) (log:List UInt8) (cl:Int) (row:List Int) (t:an.D) (P1 P2:Int) (v:cp.D) (fT:List an.D) (bks:List cw.D) (Au:List cp.D) (W ws:List Int) (k:Int)
variable (up0:Bool) (now0:Int) (log0:List UInt8) (cl0 hd0:Int) (w:eL.D) (its0:List an.D) (fr0:List Fr) (bks0:List cw.D) (AP:List cp.D)
end
abbrev Jb:Type:=Int×Int×Int×Unit
def zJ:Jb:=((0:Int),(0:Int),(0:Int),())
def jv (j:Jb):Int:=j.2.1-j.2.2.1
def Cz (v:Nat→Int):Nat→Option Nat
 |0=>none
 |i+1=>match Cz v i with
  |none=>some i
  |some b=>bif decide (v i>v b) then some i else some b
def MB {v:Nat→Int}:∀{n b:Nat},Cz v n=some b→b<n
 |0,b,h=>by cases h
 |n+1,b,h=>by
  rw[Cz] at h
  cases e:Cz v n with
  |none=>rw[e] at h;cases h;omega
  |some c=>
   have:=MB e
   rw[e] at h
   dsimp only at h
   cases q:decide (v n>v c) with
   |true=>rw[q] at h;cases h;omega
   |false=>rw[q] at h;cases h;omega
def Z6 {v w:Nat→Int}:∀{n:Nat},(∀i,i<n→v i=w i)→Cz v n=Cz w n
 |0,_=>rfl
 |n+1,h=>by
  rw[Cz,Cz,Z6 fun i hi=>h i (by omega)]
  cases e:Cz w n with
  |none=>rfl
  |some b=>dsimp only;rw[h n (by omega),h b (by have:=MB e;omega)]
structure JobsI (J:List Jb) (now:Int):Prop where
 len:J.length≤100000
 nw:now≤99999
 ok:∀i,i<J.length→(0≤(J.getD i zJ).2.1∧(J.getD i zJ).2.1≤3)∧0≤(J.getD i zJ).2.2.1∧(J.getD i zJ).2.2.1≤now
def wJ {w s now:Int}(h1:0≤w∧w≤3)(h2:0≤s∧s≤now)(h3:now≤99999):IntKind.wrap .i64 (IntKind.wrap .i64 (w+now)-s)=w+now-s:=by
 rw[wrap64 (n:=w+now) (by omega) (by omega),wrap64 (by omega) (by omega)]
def agN {J:List Jb}{now:Int}(I:JobsI J now):q85 (J,now)=some (Cq (Cz (fun k=>jv (J.getD k zJ)) J.length),()):=by
 have hl:=I.len
 have c:=Bw (r:=Km) (fun i=>(((i:Int),Cq (Cz (fun k=>jv (J.getD k zJ)) i),J,now),())) (n:=J.length) (y:=.inr (Cq (Cz (fun k=>jv (J.getD k zJ)) J.length),())) (fun i hi=>by
  have o:=I.ok i hi
  have hn:=I.nw
  have wi:=zw (i:=i)
  have i1:=BU (J.getD i zJ).2.1 0 99999
  have i2:=BU (J.getD i zJ).2.2.1 0 now
  rw[show nc (J.getD i zJ).2.1 0 99999=true from zdt] at i1
  rw[show nc (J.getD i zJ).2.2.1 0 now=true from zdt] at i2
  have dn:decide (now>99999)=false:=zdf
  have w1:=wJ o.1 o.2 hn
  rw[Cz]
  cases e:Cz (fun k=>jv (J.getD k zJ)) i with
  |none=>
   have d:decide ((-1:Int)<0)=true:=by decide
   dsimp only[Cq]
   unfold zJ at i1 i2
   simp only[Km,gl hi,g0,zl94,i1,zov i1,i2,zov i2,dn,d,zl70,zl98,zl99,zl76,Aw,pO,wi]
  |some b=>
   have hb:=MB e
   have hb':b<J.length:=by omega
   have ob:=I.ok b hb'
   have w2:=wJ ob.1 ob.2 hn
   have d:decide ((b:Int)<0)=false:=zdf
   have dv:decide ((J.getD i zJ).2.1+now-(J.getD i zJ).2.2.1>(J.getD b zJ).2.1+now-(J.getD b zJ).2.2.1)=decide (jv (J.getD i zJ)>jv (J.getD b zJ)):=by
    unfold jv
    by_cases q:(J.getD i zJ).2.1-(J.getD i zJ).2.2.1>(J.getD b zJ).2.1-(J.getD b zJ).2.2.1
    ·rw[zl86 q,zdt]
    ·rw[zl90 q,zdf]
   dsimp only[Cq]
   rw[←dv]
   unfold zJ at i1 i2 w1 w2 ⊢
   simp only[Km,gl hi,gl hb',g0,zl94,i1,zov i1,i2,zov i2,dn,d,w1,w2,zl70,zl98,zl99,Aw,pO,wi]
   cases decide ((J.getD i ((0:Int),(0:Int),(0:Int),())).2.1+now-(J.getD i ((0:Int),(0:Int),(0:Int),())).2.2.1>(J.getD b ((0:Int),(0:Int),(0:Int),())).2.1+now-(J.getD b ((0:Int),(0:Int),(0:Int),())).2.2.1)<;>rfl) (by
  have d1:decide ((J.length:Int)<(J.length:Int))=false:=zdf
  simp only[Km,d1,pO,ld]) 0 (lB _)
 have c':Comes Km ((0,-1,J,now),()) _:=c
 simp only[q85,cb c',cv c',dW,ld]
def sv (v:Sv):Int:=3-v.2.2.2.2.1-v.2.2.2.2.2.1
structure EO (S:List Sv) (now:Int):Prop where
 len:S.length≤100000
 nw:now≤99999
 cl:∀i,i<S.length→0≤(S.getD i zS).1∧(S.getD i zS).1≤3
 AM:∀i j,i<j→j<S.length→(S.getD i zS).1<(S.getD j zS).1
 wd:∀i,i<S.length→0≤(S.getD i zS).2.2.2.2.1∧(S.getD i zS).2.2.2.2.1≤3
 sn:∀i,i<S.length→0≤(S.getD i zS).2.2.2.2.2.1∧(S.getD i zS).2.2.2.2.2.1≤now
def EO.inj {S:List Sv}{now:Int}(I:EO S now){i j:Nat}(hi:i<S.length)(hj:j<S.length)(h:(S.getD i zS).1=(S.getD j zS).1):i=j:=by
 rcases Nat.lt_trichotomy i j with q|q|q
 ·have:=I.AM i j q hj;omega
 ·exact q
 ·have:=I.AM j i q hi;omega
def vO (S:List Sv)(O:List Nat)(k:Nat):Int:=sv (S.getD (O.getD k 0) zS)
def nxt (S:List Sv)(O:List Nat):Option Nat:=(Cz (vO S O) O.length).map fun k=>O.getD k 0
def B_ (f:Nat→Int)(S:List Sv)(O:List Nat):List Jb:=O.map fun i=>(f i,3-(S.getD i zS).2.2.2.2.1,(S.getD i zS).2.2.2.2.2.1,())
def Jv (f:Nat→Int)(S:List Sv)(O:List Nat):(B_ f S O).length=O.length:=by simp[B_]
def SU (f:Nat→Int)(S:List Sv)(O:List Nat)(k:Nat)(h:k<O.length):(B_ f S O).getD k zJ=(f (O.getD k 0),3-(S.getD (O.getD k 0) zS).2.2.2.2.1,(S.getD (O.getD k 0) zS).2.2.2.2.2.1,()):=by
 rw[getD_eq _ _ _ (by rw[Jv];exact h),getD_eq _ _ _ h]
 simp[B_]
def abk {S:List Sv}{now:Int}(I:EO S now)(f:Nat→Int){O:List Nat}(h:∀i∈O,i<S.length)(hl:O.length≤S.length):JobsI (B_ f S O) now:=by
 refine⟨by rw[Jv];have:=I.len;omega,I.nw,fun i hi=>?_⟩
 rw[Jv] at hi
 rw[SU _ _ _ _ hi]
 have m:O.getD i 0<S.length:=h _ (by rw[getD_eq _ _ _ hi];exact zl96 hi)
 have a:=I.wd _ m
 have b:=I.sn _ m
 exact⟨⟨by show 0≤3-_;omega,by show 3-_≤(3:Int);omega⟩,b⟩
def abj (f:Nat→Int)(S:List Sv)(O:List Nat):Cz (fun k=>jv ((B_ f S O).getD k zJ)) (B_ f S O).length=Cz (vO S O) O.length:=by
 rw[Jv]
 exact Z6 fun i hi=>by rw[SU _ _ _ _ hi];rfl
def wD {w:Int}(h:0≤w∧w≤3):IntKind.wrap .i64 (3-w)=3-w:=wrap64 (by omega) (by omega)
def hs (S:List Sv)(k:Nat):Int:=Int.tmod (S.getD k zS).1 2
def own (S:List Sv)(h:Int)(i:Nat):List Nat:=(List.range i).filter fun k=>hs S k==h
def alg (S:List Sv)(h:Int)(i:Nat):own S h (i+1)=own S h i++(bif hs S i==h then [i] else []):=by
 unfold own
 rw[List.range_succ,List.filter_append]
 cases e:(hs S i==h)<;>simp[e]
def adg (S:List Sv)(h:Int)(i:Nat):(own S h i).length≤i:=by
 have:=List.length_filter_le (fun k=>hs S k==h) (List.range i)
 rw[List.length_range] at this
 exact this
def alf {S:List Sv}{h:Int}{n k:Nat}:k∈own S h n↔k<n∧hs S k=h:=by
 unfold own;rw[List.mem_filter,List.mem_range,zl78]
def isB (S:List Sv)(h c:Int):Bool:=match nxt S (own S h S.length) with
 |some j=>(S.getD j zS).1==c
 |none=>false
def ao5 (s:b7.D)(I:EO s.2.2.2.2.2.2.1 s.2.1)(c:Int):Gz (s,c)=some (isB s.2.2.2.2.2.2.1 (Int.tmod c 2) c,()):=by
 have hS:=I.len
 have hh (x:Int):BY x=some (Int.tmod x 2,()):=rfl
 have jo:=agN (abk I (fun i=>(s.2.2.2.2.2.2.1.getD i zS).1) (O:=own s.2.2.2.2.2.2.1 (Int.tmod c 2) s.2.2.2.2.2.2.1.length) (fun i hi=>(alf.1 hi).1) (adg _ _ _))
 rw[abj] at jo
 have q:=Bw (r:=Ko) (fun i=>(((i:Int),(),(),c),s,B_ (fun i=>(s.2.2.2.2.2.2.1.getD i zS).1) s.2.2.2.2.2.2.1 (own s.2.2.2.2.2.2.1 (Int.tmod c 2) i))) (n:=s.2.2.2.2.2.2.1.length) (y:=((c,(),()),B_ (fun i=>(s.2.2.2.2.2.2.1.getD i zS).1) s.2.2.2.2.2.2.1 (own s.2.2.2.2.2.2.1 (Int.tmod c 2) s.2.2.2.2.2.2.1.length),s)) (fun i hi=>by
  have ol:=adg s.2.2.2.2.2.2.1 (Int.tmod c 2) i
  have hm:decide ((B_ (fun i=>(s.2.2.2.2.2.2.1.getD i zS).1) s.2.2.2.2.2.2.1 (own s.2.2.2.2.2.2.1 (Int.tmod c 2) i)).length+1≤eV)=true:=by rw[Jv];unfold eV;exact zdt
  have jb:EE (s.2.2.2.2.2.2.1.getD i zS)=some (((s.2.2.2.2.2.2.1.getD i zS).1,3-(s.2.2.2.2.2.2.1.getD i zS).2.2.2.2.1,(s.2.2.2.2.2.2.1.getD i zS).2.2.2.2.2.1,()),()):=by
   simp only[EE,wD (I.wd i hi)]
  rw[alg]
  unfold hs
  cases e:(Int.tmod (s.2.2.2.2.2.2.1.getD i zS).1 2==Int.tmod c 2) with
  |true=>
   simp only[dW,B_,zl54,mT,List.map_nil]
   unfold B_ at hm
   unfold zS at e jb hm ⊢
   simp only[Ko,gl hi,g0,zl94,hh,zov (hh _),e,jb,zov jb,hm,Aw,zw (i:=i)]
  |false=>
   simp only[pO,jM]
   unfold zS at e ⊢
   simp only[Ko,gl hi,g0,zl94,hh,zov (hh _),e,Aw,pO,zw (i:=i)]) (by
  have d1:decide ((s.2.2.2.2.2.2.1.length:Int)<(s.2.2.2.2.2.2.1.length:Int))=false:=zdf
  simp only[Ko,d1,pO,ld]) 0 (lB _)
 have q':Comes Ko ((0,(),(),c),s,[]) _:=q
 unfold isB nxt
 cases e:Cz (vO s.2.2.2.2.2.2.1 (own s.2.2.2.2.2.2.1 (Int.tmod c 2) s.2.2.2.2.2.2.1.length)) (own s.2.2.2.2.2.2.1 (Int.tmod c 2) s.2.2.2.2.2.2.1.length).length with
 |none=>
  rw[e] at jo
  simp only[Gz,cb q',cv q',dW,jo,zov jo,Ft,zU]
  rfl
 |some k=>
  have hk:=MB e
  have hk':k<(B_ (fun i=>(s.2.2.2.2.2.2.1.getD i zS).1) s.2.2.2.2.2.2.1 (own s.2.2.2.2.2.2.1 (Int.tmod c 2) s.2.2.2.2.2.2.1.length)).length:=by rw[Jv];exact hk
  have d:decide ((k:Int)≥0)=true:=zdt
  have g:=SU (fun i=>(s.2.2.2.2.2.2.1.getD i zS).1) s.2.2.2.2.2.2.1 _ _ hk
  unfold zJ at g
  rw[e] at jo
  dsimp only[Cq,Option.map] at jo ⊢
  simp only[Gz,cb q',cv q',jo,zov jo,Aw,d,zl94,gl hk',g,zl70,zl71]
def lvl (b:Bu)(now:Int):Int:=IntKind.wrap .i64 (b.1+IntKind.wrap .i64 (b.2.2.1*IntKind.wrap .i64 (now-b.2.2.2.1)))
def bV (b:Bu)(now:Int):Bu:=(if b.2.1<lvl b now then b.2.1 else lvl b now,b.2.1,b.2.2.1,now,b.2.2.2.2)
def agH (b:Bu)(now:Int):Gt (b,now)=some (bV b now,()):=by
 unfold bV
 by_cases h:b.2.1<lvl b now
 ·have d:decide (lvl b now>b.2.1)=true:=zl86 h
  rw[bQ h]
  unfold lvl at d
  simp only[Gt,d,dW]
 ·have d:decide (lvl b now>b.2.1)=false:=zl90 h
  rw[cT h]
  unfold lvl at d ⊢
  simp only[Gt,d,pO]
noncomputable def szV (L:Nat):Int:=(zog BX (L:Int)).1.2.1
noncomputable def P6 (fT:List It) (e:Int):Int:=match D8 fT e with
 |some i=>szV (fT.getD i z0).2.2.2.1.length
 |none=>0
def alu {L:Nat}(h1:1≤L)(hL:L≤300):∃P:gT.D,BX (L:Int)=some (P,())∧q81 (L:Int)=some (P,())∧P.2.1=szV L:=by
 obtain⟨P,_,a,b⟩:=adA L h1 hL
 exact⟨P,a,b,by unfold szV;rw[zov a]⟩
def abi {c:Ct}(I:BF c){i:Nat}(h:i<c.2.1.length):(0≤(c.2.1.getD i z0).1∧(c.2.1.getD i z0).1≤1)∧1≤(c.2.1.getD i z0).2.2.2.1.length∧(c.2.1.getD i z0).2.2.2.1.length≤300:=by
 have m:c.2.1.getD i z0∈c.2.1:=by rw[getD_eq _ _ _ h];exact zl96 h
 have:=JL (I.ok _ m)
 exact⟨this.1,this.2.2⟩
noncomputable def I5 (B:List Bu) (fT:List It) (S:List Sv) (k:Nat):Bool:=
 isB S (hs S k) (S.getD k zS).1&&decide ((B.getD (hs S k).toNat zB).1≥P6 fT (S.getD k zS).2.2.1)
noncomputable def De (B:List Bu) (fT:List It) (S:List Sv) (i:Nat):List Nat:=(List.range i).filter (I5 B fT S)
def aoX (B:List Bu)(fT:List It)(S:List Sv)(i:Nat):De B fT S (i+1)=De B fT S i++(bif I5 B fT S i then [i] else []):=by
 unfold De
 rw[List.range_succ,List.filter_append]
 cases e:I5 B fT S i<;>simp[e]
def agD (B:List Bu)(fT:List It)(S:List Sv)(i:Nat):(De B fT S i).length≤i:=by
 have:=List.length_filter_le (I5 B fT S) (List.range i)
 rw[List.length_range] at this
 exact this
def agE {B:List Bu}{fT:List It}{S:List Sv}{n k:Nat}:k∈De B fT S n↔k<n∧I5 B fT S k=true:=by
 unfold De;rw[List.mem_filter,List.mem_range]
def hs_b {S:List Sv}{now:Int}(I:EO S now){k:Nat}(h:k<S.length):hs S k=0∨hs S k=1:=by
 have:=I.cl k h
 unfold hs
 rw[Int.tmod_eq_emod_of_nonneg this.1];omega
def ape (s:b7.D)(I:EO s.2.2.2.2.2.2.1 s.2.1)(C:BF s.2.2.2.1)(hB:s.2.2.2.2.2.1.length=2) :
  q96 s=some (B_ (fun i=>(s.2.2.2.2.2.2.1.getD i zS).1) s.2.2.2.2.2.2.1 (De s.2.2.2.2.2.1 s.2.2.2.1.2.1 s.2.2.2.2.2.2.1 s.2.2.2.2.2.2.1.length),()):=by
 have hS:=I.len
 have hl:=C.len
 have hh (x:Int):BY x=some (Int.tmod x 2,()):=rfl
 have q:=Bw (r:=Hx) (fun i=>(((i:Int),(),()),B_ (fun i=>(s.2.2.2.2.2.2.1.getD i zS).1) s.2.2.2.2.2.2.1 (De s.2.2.2.2.2.1 s.2.2.2.1.2.1 s.2.2.2.2.2.2.1 i),s)) (n:=s.2.2.2.2.2.2.1.length)
  (y:=((),B_ (fun i=>(s.2.2.2.2.2.2.1.getD i zS).1) s.2.2.2.2.2.2.1 (De s.2.2.2.2.2.1 s.2.2.2.1.2.1 s.2.2.2.2.2.2.1 s.2.2.2.2.2.2.1.length))) (fun i hi=>by
  have ol:=agD s.2.2.2.2.2.1 s.2.2.2.1.2.1 s.2.2.2.2.2.2.1 i
  have hm:decide ((B_ (fun i=>(s.2.2.2.2.2.2.1.getD i zS).1) s.2.2.2.2.2.2.1 (De s.2.2.2.2.2.1 s.2.2.2.1.2.1 s.2.2.2.2.2.2.1 i)).length+1≤eV)=true:=by rw[Jv];unfold eV;exact zdt
  have jb:EE (s.2.2.2.2.2.2.1.getD i zS)=some (((s.2.2.2.2.2.2.1.getD i zS).1,3-(s.2.2.2.2.2.2.1.getD i zS).2.2.2.2.1,(s.2.2.2.2.2.2.1.getD i zS).2.2.2.2.2.1,()),()):=by
   simp only[EE,wD (I.wd i hi)]
  have bt:=ao5 s I (s.2.2.2.2.2.2.1.getD i zS).1
  have ed:=Ue s.2.2.2.1 (s.2.2.2.2.2.2.1.getD i zS).2.2.1 (by omega)
  have hb:=hs_b I hi
  have hk:(hs s.2.2.2.2.2.2.1 i).toNat<s.2.2.2.2.2.1.length:=by omega
  have hk0:decide (0≤hs s.2.2.2.2.2.2.1 i)=true:=zdt
  have hk1:decide (hs s.2.2.2.2.2.2.1 i<(s.2.2.2.2.2.1.length:Int))=true:=zdt
  rw[aoX]
  have key:B_ (fun i=>(s.2.2.2.2.2.2.1.getD i zS).1) s.2.2.2.2.2.2.1 (De s.2.2.2.2.2.1 s.2.2.2.1.2.1 s.2.2.2.2.2.2.1 i++(bif I5 s.2.2.2.2.2.1 s.2.2.2.1.2.1 s.2.2.2.2.2.2.1 i then [i] else []))
    = bif I5 s.2.2.2.2.2.1 s.2.2.2.1.2.1 s.2.2.2.2.2.2.1 i then B_ (fun i=>(s.2.2.2.2.2.2.1.getD i zS).1) s.2.2.2.2.2.2.1 (De s.2.2.2.2.2.1 s.2.2.2.1.2.1 s.2.2.2.2.2.2.1 i) ++ [((s.2.2.2.2.2.2.1.getD i zS).1,3-(s.2.2.2.2.2.2.1.getD i zS).2.2.2.2.1,(s.2.2.2.2.2.2.1.getD i zS).2.2.2.2.2.1,())] else B_ (fun i=>(s.2.2.2.2.2.2.1.getD i zS).1) s.2.2.2.2.2.2.1 (De s.2.2.2.2.2.1 s.2.2.2.1.2.1 s.2.2.2.2.2.2.1 i):=by
   cases I5 s.2.2.2.2.2.1 s.2.2.2.1.2.1 s.2.2.2.2.2.2.1 i
   ·simp only[pO,jM]
   ·simp only[dW,B_,zl54,mT,List.map_nil]
  rw[key]
  generalize B_ (fun i=>(s.2.2.2.2.2.2.1.getD i zS).1) s.2.2.2.2.2.2.1 (De s.2.2.2.2.2.1 s.2.2.2.1.2.1 s.2.2.2.2.2.2.1 i)=J at *
  unfold I5
  unfold hs at hk hk0 hk1 ⊢
  generalize isB s.2.2.2.2.2.2.1 (Int.tmod (s.2.2.2.2.2.2.1.getD i zS).1 2) (s.2.2.2.2.2.2.1.getD i zS).1=bb at *
  cases h:D8 s.2.2.2.1.2.1 (s.2.2.2.2.2.2.1.getD i zS).2.2.1 with
  |none=>
   rw[h] at ed
   dsimp only[HZ,Option.isSome] at ed
   have ez:P6 s.2.2.2.1.2.1 (s.2.2.2.2.2.2.1.getD i zS).2.2.1=0:=by unfold P6;rw[h]
   rw[ez]
   unfold zS at *
   unfold zB
   cases bb with
   |false=>
    simp only[Hx,gl hi,g0,zl94,hh,zov (hh _),ed,zov ed,bt,zov bt,zl98,zl76,zl93,Aw,pO,zw (i:=i)]
   |true=>
    simp only[Hx,gl hi,g0,zl94,hh,zov (hh _),ed,zov ed,bt,zov bt,hk0,hk1,zl70,zl71,zl108,Aw,pO,zw (i:=i),jb,zov jb,hm]
    cases decide ((List.getD s.2.2.2.2.2.1 (Int.tmod (List.getD s.2.2.2.2.2.2.1 i ((0:Int),(0:Int),(0:Int),(0:Int),(0:Int),(0:Int),())).1 2).toNat ((0:Int),(0:Int),(0:Int),(0:Int),())).1≥0)<;>rfl
  |some j=>
   rw[h] at ed
   have hj:=WN h
   obtain⟨_,l1,l2⟩:=abi C hj
   obtain⟨P,p1,_,p3⟩:=alu l1 l2
   dsimp only[HZ,Option.isSome] at ed
   have ez:P6 s.2.2.2.1.2.1 (s.2.2.2.2.2.2.1.getD i zS).2.2.1=P.2.1:=by unfold P6;rw[h];exact p3.symm
   rw[ez]
   unfold z0 at ed p1
   unfold zS at *
   unfold zB
   cases bb with
   |false=>
    simp only[Hx,gl hi,g0,zl94,hh,zov (hh _),ed,zov ed,p1,bt,zov bt,zl98,zl76,zl93,Aw,pO,zw (i:=i)]
   |true=>
    simp only[Hx,gl hi,g0,zl94,hh,zov (hh _),ed,zov ed,p1,zov p1,bt,zov bt,hk0,hk1,zl70,zl71,zl108,Aw,zw (i:=i),jb,zov jb,hm]
    cases decide ((List.getD s.2.2.2.2.2.1 (Int.tmod (List.getD s.2.2.2.2.2.2.1 i ((0:Int),(0:Int),(0:Int),(0:Int),(0:Int),(0:Int),())).1 2).toNat ((0:Int),(0:Int),(0:Int),(0:Int),())).1≥P.2.1)<;>rfl) (by
  have d1:decide ((s.2.2.2.2.2.2.1.length:Int)<(s.2.2.2.2.2.2.1.length:Int))=false:=zdf
  simp only[Hx,d1,pO,ld]) 0 (lB _)
 have q':Comes Hx ((0,(),()),[],s) _:=q
 simp only[q96,cb q',cv q',dW,ld]
section
variable (now:Int) (log:List UInt8) (cl hd:Int) (fT:List It) (fr:List Fr) (S:List Sv)
def apB (b0 b1:Bu) :
  Comes Ng (((0:Int),(),()),(true,now,log,(cl,(),()),((),hd,()),(),(),()),(false,(0:Int),[],((0:Int),(),()),((),(0:Int),()),(),(),()),fT,fr,[b0,b1],S,[],[],[],[])
   (((),()),(false,(0:Int),[],((0:Int),(),()),((),(0:Int),()),(),(),()),(true,now,log,(cl,(),()),((),hd,()),(),(),()),[],[],[],[],fT,fr,[bV b0 now,bV b1 now],S):=by
 have e0:=agH b0 now
 have e1:=agH b1 now
 refine .again (x':=(((1:Int),(),()),(true,now,log,(cl,(),()),((),hd,()),(),(),()),(false,(0:Int),[],((0:Int),(),()),((),(0:Int),()),(),(),()),fT,fr,[bV b0 now,b1],S,[],[],[],[])) ?_
  (.again (x':=(((2:Int),(),()),(true,now,log,(cl,(),()),((),hd,()),(),(),()),(false,(0:Int),[],((0:Int),(),()),((),(0:Int),()),(),(),()),fT,fr,[bV b0 now,bV b1 now],S,[],[],[],[])) ?_ (.out rfl))
 ·have f:Gt (List.getD [b0,b1] (Int.toNat 0) ((0:Int),(0:Int),(0:Int),(0:Int),()),now)=some (bV b0 now,()):=e0
  simp only[Ng,f,zov f,Ft,ld]
  rfl
 ·have f:Gt (List.getD [bV b0 now,b1] (Int.toNat 1) ((0:Int),(0:Int),(0:Int),(0:Int),()),now)=some (bV b1 now,()):=e1
  simp only[Ng,f,zov f,Ft,ld]
  rfl
variable (up0:Bool) (now0:Int) (log0:List UInt8) (cl0 hd0:Int) (its0:List It) (fr0:List Fr) (bks0:List Bu) (AP:List Sv) (rd:List Int) (B:List Bu)
end
def ao4 (s:b7.D){now:Int}(I:EO s.2.2.2.2.2.2.1 now)(k:Nat)(hk:k<s.2.2.2.2.2.2.1.length):FD (s,(s.2.2.2.2.2.2.1.getD k zS).1)=some ((k:Int),()):=by
 have hS:=I.len
 have q:=Em (r:=E7) (fun i=>(((i:Int),(s.2.2.2.2.2.2.1.getD k zS).1,()),s)) (n:=s.2.2.2.2.2.2.1.length) (p:=fun i=>(s.2.2.2.2.2.2.1.getD i zS).1==(s.2.2.2.2.2.2.1.getD k zS).1) (yt:=fun i=>.inl ((i:Int),())) (yn:=.inr ((),())) (fun i hi hp=>by
   unfold zS at hp ⊢
   simp only[E7,gl hi,g0,zl94,hp,zU,zl92,dW,pO,zw (i:=i)]) (fun i hi hp=>by
   unfold zS at hp ⊢
   simp only[E7,gl hi,g0,zl94,hp,zU,zl92,dW]) (by
   have d1:decide ((s.2.2.2.2.2.2.1.length:Int)<(s.2.2.2.2.2.2.1.length:Int))=false:=zdf
   simp only[E7,d1,pO])
 have f:first s.2.2.2.2.2.2.1.length (fun i=>(s.2.2.2.2.2.2.1.getD i zS).1==(s.2.2.2.2.2.2.1.getD k zS).1)=some k:=CA.2 ⟨hk,zl95 _,fun j hj=>by
  rw[zl89]
  have:=I.AM j k hj hk
  omega⟩
 rw[f] at q
 have q':Comes E7 ((0,(s.2.2.2.2.2.2.1.getD k zS).1,()),s) (.inl ((k:Int),())):=q
 simp only[FD,cb q',cv q',dW,ld]
def wo (S:List Sv)(c:Int)(i:Nat):List Sv:=(S.take i).filter fun v=>v.1 != c
def aqb (S:List Sv)(c:Int)(i:Nat)(h:i<S.length):wo S c (i+1)=wo S c i++(bif(S.getD i zS).1 != c then [S.getD i zS] else []):=by
 unfold wo
 rw[zl88 h,List.filter_append,getD_eq _ _ _ h]
 cases e:(S[i].1 != c)<;>simp[e]
def YW (S:List Sv)(c:Int)(i:Nat):(wo S c i).length≤i:=by
 have:=List.length_filter_le (fun v:Sv=>v.1 != c) (S.take i)
 rw[zl3] at this
 unfold wo;omega
def wo_all {S:List Sv}{now:Int}(I:EO S now)(k:Nat)(hk:k<S.length):wo S (S.getD k zS).1 S.length=S.eraseIdx k:=by
 have sp:S=S.take k++S.getD k zS::S.drop (k+1):=by
  rw[getD_eq _ _ _ hk,←zl109 hk,zl68]
 have f1:∀v∈S.take k,(v.1 != (S.getD k zS).1)=true:=fun v hv=>by
  obtain⟨i,hi,rfl⟩:=List.mem_iff_getElem.1 hv
  rw[zl3] at hi
  have:=I.AM i k (by omega) hk
  rw[getD_eq _ _ _ (show i<S.length by omega)] at this
  rw[List.getElem_take]
  simp only[bne_iff_ne];omega
 have f2:∀v∈S.drop (k+1),(v.1 != (S.getD k zS).1)=true:=fun v hv=>by
  obtain⟨i,hi,rfl⟩:=List.mem_iff_getElem.1 hv
  rw[zl4] at hi
  have:=I.AM k (k+1+i) (by omega) (by omega)
  rw[getD_eq S (k+1+i) _ (show k+1+i<S.length by omega)] at this
  rw[List.getElem_drop]
  simp only[bne_iff_ne];omega
 unfold wo
 rw[zl102,zl112]
 generalize (S.getD k zS)=x at *
 conv=>lhs;rw[sp]
 rw[List.filter_append,List.filter_cons,List.filter_eq_self.2 f1,List.filter_eq_self.2 f2]
 simp
def Uh (s:b7.D)(hS:s.2.2.2.2.2.2.1.length≤100000)(c:Int):Gw (s,c)=some ((s.1,s.2.1,s.2.2.1,s.2.2.2.1,s.2.2.2.2.1,s.2.2.2.2.2.1,wo s.2.2.2.2.2.2.1 c s.2.2.2.2.2.2.1.length,s.2.2.2.2.2.2.2),()):=by
 have q:=Bw (r:=Kg) (fun i=>(((i:Int),(),(),c,()),s,wo s.2.2.2.2.2.2.1 c i,(false,(0:Int),[],((0:Int),(),()),((),(0:Int),()),(),(),()),[],[],[],[])) (n:=s.2.2.2.2.2.2.1.length)
  (y:=(((),(),()),(false,(0:Int),[],((0:Int),(),()),((),(0:Int),()),(),(),()),s,wo s.2.2.2.2.2.2.1 c s.2.2.2.2.2.2.1.length,[],[],[],[])) (fun i hi=>by
  have wl:=YW s.2.2.2.2.2.2.1 c i
  have hm:decide ((wo s.2.2.2.2.2.2.1 c i).length+1≤eV)=true:=by unfold eV;exact zdt
  rw[aqb _ _ _ hi]
  generalize wo s.2.2.2.2.2.2.1 c i=L at *
  unfold zS
  cases e:((List.getD s.2.2.2.2.2.2.1 i ((0:Int),(0:Int),(0:Int),(0:Int),(0:Int),(0:Int),())).1 != c) with
  |true=>simp only[Kg,gl hi,g0,zl94,e,hm,zU,zl92,dW,zw (i:=i)]
  |false=>simp only[Kg,gl hi,g0,zl94,e,zU,zl92,dW,pO,jM,zw (i:=i)]) (by
  have d1:decide ((s.2.2.2.2.2.2.1.length:Int)<(s.2.2.2.2.2.2.1.length:Int))=false:=zdf
  simp only[Kg,d1,pO]) 0 (lB _)
 have q':Comes Kg ((0,(),(),c,()),s,[],(false,(0:Int),[],((0:Int),(),()),((),(0:Int),()),(),(),()),[],[],[],[]) _:=q
 simp only[Gw,cb q',cv q',dW,ld]
structure TickI (now cl hd:Int) (fT:List It) (l:List Fr) (h:Nat) (S:List Sv):Prop where
 nw0:0≤now
 Au:EO S now
 cat:BF (cl,fT,())
 hde:hd=(h:Int)
 G7:B8 l h
 free:Jf l
 ed:∀i,i<S.length→1≤(S.getD i zS).2.2.1∧(S.getD i zS).2.2.1≤cl
 nx:∀i,i<S.length→0≤(S.getD i zS).2.2.2.1∧(S.getD i zS).2.2.2.1≤9999
 hse:∀i,i<S.length→∀j,D8 fT (S.getD i zS).2.2.1=some j→(fT.getD j z0).1=Int.tmod (S.getD i zS).1 2
section
variable {now cl hd:Int} {log:List UInt8} {fT:List It} {l:List Fr} {h:Nat} {S:List Sv} {B:List Bu}
end
def ok_up {now cl:Int}{log:List UInt8}{fT:List It}{p:Po}{bk:List Bu}{S:List Sv}(ok:AJ (true,now,log,(cl,fT,()),p,bk,S,())=true)(h9:now<99999)(hl:S.length≤9999999) :
  ∃(l:List Fr) (h:Nat) (b0 b1:Bu),p=(l,(h:Int),())∧bk = [b0,b1]∧TickI (now+1) cl (h:Int) fT l h S∧Jm b0=true∧Jm b1=true∧b0.2.2.2.1≤now+1∧b1.2.2.2.1≤now+1∧1≤now+1:=by
 have C:=EY ok
 unfold AJ at ok
 simp only[bB] at ok
 obtain⟨n0,_,_,up⟩:=ok
 have n0:=zl79 n0
 simp only[dW,upV,bB,zl78] at up
 obtain⟨_,_,pv,bl,sv,fv,bv⟩:=up
 obtain⟨h,pe,G⟩:=alw pv
 have n0:0≤now∧now≤99999:=n0
 have bl:bk.length=2:=bl
 match bk,bl with
 | [b0,b1],_=>
 have bq:=we.1 bv
 have sq:=we.1 sv
 have fq:=we.1 fv
 have bz:∀b:Bu,(!KT now b)=true→Jm b=true∧b.2.2.2.1≤now:=fun b q=>by
  unfold KT at q
  cases e:Jm b with
  |false=>rw[e] at q;cases q
  |true=>
   rw[e] at q
   cases e1:(b.2.1 != 40) with
   |true=>rw[e1] at q;cases q
   |false=>
    cases e2:(b.2.2.1 != 8) with
    |true=>rw[e1,e2] at q;cases q
    |false=>
     cases e3:decide (b.2.2.2.1>now) with
     |true=>rw[e1,e2,e3] at q;cases q
     |false=>exact⟨rfl,by have:=zl101 e3;omega⟩
 have z0_:=bz b0 (bq 0 (by show 0<2;omega))
 have z1_:=bz b1 (bq 1 (by show 1<2;omega))
 have sx:∀i,i<S.length→EL (cl,fT,()) now S i=false:=fun i hi=>by
  have:=sq i hi
  cases e:EL (cl,fT,()) now S i with
  |false=>rfl
  |true=>have this:(!EL (cl,fT,()) now S i)=true:=this;rw[e] at this;cases this
 have sy:∀i,i<S.length→(0≤(S.getD i zS).1∧(S.getD i zS).1≤3)∧PC S i (S.getD i zS).1=false∧(1≤(S.getD i zS).2.2.1∧(S.getD i zS).2.2.1≤cl)∧(0≤(S.getD i zS).2.2.2.1∧(S.getD i zS).2.2.2.1≤9999)∧(0≤(S.getD i zS).2.2.2.2.1∧(S.getD i zS).2.2.2.2.1≤3)∧(0≤(S.getD i zS).2.2.2.2.2.1∧(S.getD i zS).2.2.2.2.2.1≤now)∧OJ (cl,fT,()) (S.getD i zS)=false:=fun i hi=>by
  have q:=sx i hi
  unfold EL at q
  simp only[ry,Bool.not_eq_false'] at q
  obtain⟨⟨⟨⟨⟨⟨⟨q1,q2⟩,_⟩,q3⟩,q4⟩,q5⟩,q6⟩,q7⟩:=q
  exact⟨zl79 q1,q2,zl79 q3,zl79 q4,zl79 q5,zl79 q6,q7⟩
 have nxt_:∀i,i+1<S.length→(S.getD i zS).1<(S.getD (i+1) zS).1:=fun i hi=>by
  have q:=(sy (i+1) hi).2.1
  have:=zl101 q
  omega
 have AM:∀d i,i+1+d<S.length→(S.getD i zS).1<(S.getD (i+1+d) zS).1:=by
  intro d
  induction d with
  |zero=>intro i hi;exact nxt_ i hi
  |succ d ih=>
   intro i hi
   have a:=ih i (by omega)
   have b:=nxt_ (i+1+d) (by omega)
   rw[show i+1+(d+1)=i+1+d+1 by omega]
   omega
 have cl3:S.length≤100000:=by
  by_cases q:S.length≤100000
  ·exact q
  ·exfalso
   have h1:=AM 0 0 (by omega)
   have h2:=AM 0 1 (by omega)
   have h3:=AM 0 2 (by omega)
   have h4:=AM 0 3 (by omega)
   have:=(sy 0 (by omega)).1
   have:=(sy 4 (by omega)).1
   simp only[Nat.reduceAdd] at h1 h2 h3 h4
   omega
 have fr:Jf p.1:=fun i hi=>by
  have hd:=(G.held i hi).1
  have q:=fq i (by show i<p.1.length;rw[G.len];exact hi)
  cases e:decide ((p.1.getD i zF).2.2.2.1>0) with
  |false=>have:=zl101 e;omega
  |true=>
   have q:(!KW (cl,fT,()) (p.1.getD i zF))=true:=q
   unfold KW at q
   rw[e] at q;cases q
 refine⟨p.1,h,b0,b1,pe,rfl,⟨by omega,⟨cl3,by omega,fun i hi=>(sy i hi).1,fun i j hij hj=>?_,fun i hi=>(sy i hi).2.2.2.2.1,fun i hi=>?_⟩,C,rfl,G,fr,fun i hi=>(sy i hi).2.2.1,fun i hi=>(sy i hi).2.2.2.1,fun i hi j hj=>?_⟩,z0_.1,z1_.1,by omega,by omega,by omega⟩
 ·have:=AM (j-i-1) i (by omega)
  rwa[show i+1+(j-i-1)=j by omega] at this
 ·have:=(sy i hi).2.2.2.2.2.1;omega
 ·have q:=(sy i hi).2.2.2.2.2.2
  unfold OJ at q
  dsimp only at q
  rw[hj] at q
  simpa[HZ] using q
def Ej (w:eL.D):Bool:=
 ((((nc w.2.1 0 99999&&nc w.2.2.1 1 99999)&&nc w.2.2.2.1 0 99999)&&nc w.2.2.2.2.1 0 99999) && !decide ((w.2.2.2.2.2.2.1.length:Int)>80)) &&
 (bif w.1==1 then EA w.2.2.2.2.2.1&&(w.2.2.2.2.1==0&&w.2.2.2.2.2.2.1 == []) else(w.2.2.2.2.2.1 == [] &&
  (bif w.1==6 then w.2.2.2.2.1==0&&w.2.2.2.2.2.2.1 == [] else bif w.1==2 then decide (w.2.2.2.1>0)&&(w.2.2.2.2.1==0 && !(w.2.2.2.2.2.2.1 == [])) else bif w.1==3 then decide (w.2.2.2.1>0) && !(w.2.2.2.2.2.2.1 == []) else
   bif w.1==4 then decide (w.2.2.2.1>0)&&w.2.2.2.2.2.2.1 == [] else bif w.1==5 then decide (w.2.2.2.1>0)&&w.2.2.2.2.2.2.1 == [] else false)))
def Qa (w:eL.D)(hn:w.2.2.2.2.2.1.length≤9999999):Eg w=some (Ej w,()):=by
 have nm:=Uf w.2.2.2.2.2.1 hn
 unfold Ej
 simp only[Eg,BU,zov (BU _ _ _),nm,zov nm,zl99,Aw]
 cases nc w.2.1 0 99999
 ·rfl
 cases nc w.2.2.1 1 99999
 ·rfl
 cases nc w.2.2.2.1 0 99999
 ·rfl
 cases nc w.2.2.2.2.1 0 99999
 ·rfl
 cases decide ((w.2.2.2.2.2.2.1.length:Int)>80)
 ·simp only[zl70,zl98,pO,zl92,zl108]
  cases (w.1==(1:Int))
  ·simp only[pO,dW,zl98]
   cases (w.2.2.2.2.2.1 == [])
   ·rfl
   ·simp only[zl70,pO,zl108]
    cases (w.1==(6:Int))
    ·cases (w.1==(2:Int))
     ·cases (w.1==(3:Int))
      ·cases (w.1==(4:Int))
       ·cases (w.1==(5:Int))
        ·rfl
        ·cases decide (w.2.2.2.1>0)<;>rfl
       ·cases decide (w.2.2.2.1>0)<;>rfl
      ·cases decide (w.2.2.2.1>0)<;>rfl
     ·cases decide (w.2.2.2.1>0)<;>cases (w.2.2.2.2.1==0)<;>rfl
    ·cases (w.2.2.2.2.1==0)<;>rfl
  ·simp only[dW,zl70,pO]
   cases EA w.2.2.2.2.2.1
   ·rfl
   ·cases (w.2.2.2.2.1==0)<;>rfl
 ·rfl
def mr (n:Nat)(h:n≤100000):decide (n≤eV)=true:=by unfold eV;exact zdt
def Ib (a b:Sv):Bool:=decide (a.1<b.1)
def posO (S:List Sv)(c:Int):Option Nat:=first S.length (fun i=> !decide ((S.getD i zS).1<c))
def Lp (S:List Sv)(c:Int):Nat:=match posO S c with
 |some i=>i
 |none=>S.length
def alx (S:List Sv)(c:Int):Lp S c≤S.length:=by
 unfold Lp
 cases e:posO S c with
 |none=>exact bA _
 |some i=>have:=(CA.1 e).1;dsimp only;omega
def SS (S:List Sv)(v:Sv):List Sv:=S.take (Lp S v.1)++v::S.drop (Lp S v.1)
def ag0 {S:List Sv}{now:Int}(I:EO S now):S.length≤4:=by
 have st:∀d i,i+d<S.length→(S.getD i zS).1+(d:Int)≤(S.getD (i+d) zS).1:=by
  intro d
  induction d with
  |zero=>intro i hi;simp
  |succ d ih=>
   intro i hi
   have a:=ih i (by omega)
   have b:=I.AM (i+d) (i+(d+1)) (by omega) hi
   omega
 by_cases q:S.length≤4
 ·exact q
 ·exfalso
  have h:=st 4 0 (by omega)
  have h0:=(I.cl 0 (by omega)).1
  have h4:=(I.cl (0+4) (by omega)).2
  omega
def svO (S:List Sv)(c:Int):Option Nat:=first S.length (fun i=>(S.getD i zS).1==c)
def agT (s:b7.D)(hS:s.2.2.2.2.2.2.1.length≤100000)(c:Int):FD (s,c)=some (Cq (svO s.2.2.2.2.2.2.1 c),()):=by
 have q:=Em (r:=E7) (fun i=>(((i:Int),c,()),s)) (n:=s.2.2.2.2.2.2.1.length) (p:=fun i=>(s.2.2.2.2.2.2.1.getD i zS).1==c) (yt:=fun i=>.inl ((i:Int),())) (yn:=.inr ((),())) (fun i hi hp=>by
   unfold zS at hp
   simp only[E7,gl hi,g0,zl94,hp,zU,zl92,dW,pO,zw (i:=i)]) (fun i hi hp=>by
   unfold zS at hp
   simp only[E7,gl hi,g0,zl94,hp,zU,zl92,dW]) (by
   have d1:decide ((s.2.2.2.2.2.2.1.length:Int)<(s.2.2.2.2.2.2.1.length:Int))=false:=zdf
   simp only[E7,d1,pO])
 have q':Comes E7 ((0,c,()),s) _:=q
 simp only[FD,cb q',cv q',dW,svO,ld]
 cases first s.2.2.2.2.2.2.1.length (fun i=>(s.2.2.2.2.2.2.1.getD i zS).1==c)<;>rfl
def apt (s:b7.D)(hS:s.2.2.2.2.2.2.1.length≤1000)(v:Sv):Lt (s,v)=some ((s.1,s.2.1,s.2.2.1,s.2.2.2.1,s.2.2.2.2.1,s.2.2.2.2.2.1,SS (wo s.2.2.2.2.2.2.1 v.1 s.2.2.2.2.2.2.1.length) v,s.2.2.2.2.2.2.2),()):=by
 have w:=Uh s (by omega) v.1
 have wl:=YW s.2.2.2.2.2.2.1 v.1 s.2.2.2.2.2.2.1.length
 generalize wo s.2.2.2.2.2.2.1 v.1 s.2.2.2.2.2.2.1.length=L at *
 have q:=Em (r:=JM) (fun i=>(((i:Int),(),(),()),(false,(0:Int),[],((0:Int),(),()),((),(0:Int),()),(),(),()),(s.1,s.2.1,s.2.2.1,s.2.2.2.1,s.2.2.2.2.1,s.2.2.2.2.2.1,(),s.2.2.2.2.2.2.2),v,[],[],[],[],L)) (n:=L.length) (p:=fun i=> !decide ((L.getD i zS).1<v.1))
  (yt:=fun i=>(((),(),(i:Int),()),(false,(0:Int),[],((0:Int),(),()),((),(0:Int),()),(),(),()),(s.1,s.2.1,s.2.2.1,s.2.2.2.1,s.2.2.2.2.1,s.2.2.2.2.2.1,(),s.2.2.2.2.2.2.2),v,[],[],[],[],L)) (yn:=(((),(),(L.length:Int),()),(false,(0:Int),[],((0:Int),(),()),((),(0:Int),()),(),(),()),(s.1,s.2.1,s.2.2.1,s.2.2.2.1,s.2.2.2.2.1,s.2.2.2.2.2.1,(),s.2.2.2.2.2.2.2),v,[],[],[],[],L)) (fun i hi hp=>by
   have hp':decide ((L.getD i zS).1<v.1)=true:=by simpa using hp
   unfold zS at hp'
   simp only[JM,gl hi,g0,zl94,hp',zl99,zU,zl92,dW,zw (i:=i)]) (fun i hi hp=>by
   have hp':decide ((L.getD i zS).1<v.1)=false:=by simpa using hp
   unfold zS at hp'
   simp only[JM,gl hi,g0,zl94,hp',zl99,zU,zl92,dW,pO]) (by
   have d1:decide ((L.length:Int)<(L.length:Int))=false:=zdf
   simp only[JM,d1,g0,zl99,zl98,zl76,zU,zl92,dW,pO])
 have pl:=alx L v.1
 have q':Comes JM ((0,(),(),()),(false,(0:Int),[],((0:Int),(),()),((),(0:Int),()),(),(),()),(s.1,s.2.1,s.2.2.1,s.2.2.2.1,s.2.2.2.2.1,s.2.2.2.2.2.1,(),s.2.2.2.2.2.2.2),v,[],[],[],[],L) (((),(),(Lp L v.1:Int),()),(false,(0:Int),[],((0:Int),(),()),((),(0:Int),()),(),(),()),(s.1,s.2.1,s.2.2.1,s.2.2.2.1,s.2.2.2.2.1,s.2.2.2.2.2.1,(),s.2.2.2.2.2.2.2),v,[],[],[],[],L):=by
  unfold Lp posO
  revert q
  cases first L.length (fun i=> !decide ((L.getD i zS).1<v.1))<;>exact fun q=>q
 unfold SS
 generalize Lp L v.1=p at *
 have t0:Int.toNat ((p:Int)-0)=p:=by omega
 have t1:List.take (Int.toNat ((L.length:Int)-(p:Int))) (List.drop p L)=List.drop p L:=zl57 (by rw[zl4];omega)
 have t2:List.drop (Int.toNat (0:Int)) L=L:=rfl
 have b1:decide ((p:Int)≤(L.length:Int))=true:=zdt
 have b2:decide ((L.length:Int)≤(L.length:Int))=true:=zdt
 have m1:decide ((List.take p L ++ [v]).length+(List.drop p L).length≤eV)=true:=mr _ (by simp only[eY,zl103,zl3,zl4];omega)
 have m2:decide ((List.take p L).length+1≤eV)=true:=mr _ (by rw[zl3];omega)
 have m3:decide (0+(List.take p L).length≤eV)=true:=mr _ (by rw[zl3];omega)
 simp only[Lt,w,zov w,cb q',cv q',t0,t1,t2,zl94,zl17,b1,b2,m1,m2,m3,g0,Aw,cZ,zl104]
def ahz {c:Ct}(I:BF c){h:Int}{n:List UInt8}(ha:C7 c.2.1 h n=none):DX (c,h,n)=some ((z0,false),()):=by
 have c1:=P7 c h n (by have:=I.len;omega)
 have c2:=Ox c I
 rw[ha] at c1
 have dm:decide ((-1:Int)<0)=true:=by decide
 dsimp only[Cq] at c1
 simp only[DX,c1,zov c1,c2,zov c2,Ft,zU,dW,zl70,pO,dm,z0]
def ahA {c:Ct}(I:BF c){h:Int}{n:List UInt8}{i:Nat}(ha:C7 c.2.1 h n=some i):i<c.2.1.length∧DX (c,h,n)=some ((c.2.1.getD i z0,true),()):=by
 have c1:=P7 c h n (by have:=I.len;omega)
 have c2:=Ox c I
 rw[ha] at c1
 obtain⟨hi,_,_⟩:=Wq ha
 refine⟨hi,?_⟩
 have p3:decide ((i:Int)<0)=false:=zdf
 dsimp only[Cq] at c1
 simp only[DX,c1,zov c1,c2,zov c2,Aw,zl70,pO,gl hi,g0,p3,zl94,z0]
section
variable {up:Bool} {now cl:Int} {log:List UInt8} {fT:List It} {p:Po} {bk:List Bu} {S:List Sv} {w:eL.D}
end
section
variable {up:Bool} {now cl:Int} {log:List UInt8} {fT:List It} {p:Po} {bk:List Bu} {S:List Sv} {w:eL.D}
end
def ok_srv {now cl:Int}{log:List UInt8}{fT:List It}{p:Po}{bk:List Bu}{S:List Sv}(ok:AJ (true,now,log,(cl,fT,()),p,bk,S,())=true)(hl:S.length≤9999999):EO S now:=by
 have n0:0≤now∧now≤99999:=by
  have q:=ok
  unfold AJ at q
  simp only[bB] at q
  exact zl79 q.1
 unfold AJ at ok
 simp only[bB] at ok
 obtain⟨_,_,_,up⟩:=ok
 simp only[dW,upV,bB,zl78] at up
 obtain⟨_,_,_,_,sv,_,_⟩:=up
 have sq:=we.1 sv
 have sx:∀i,i<S.length→EL (cl,fT,()) now S i=false:=fun i hi=>by
  have:=sq i hi
  cases e:EL (cl,fT,()) now S i with
  |false=>rfl
  |true=>have this:(!EL (cl,fT,()) now S i)=true:=this;rw[e] at this;cases this
 have sy:∀i,i<S.length→(0≤(S.getD i zS).1∧(S.getD i zS).1≤3)∧PC S i (S.getD i zS).1=false∧(0≤(S.getD i zS).2.2.2.2.1∧(S.getD i zS).2.2.2.2.1≤3)∧(0≤(S.getD i zS).2.2.2.2.2.1∧(S.getD i zS).2.2.2.2.2.1≤now):=fun i hi=>by
  have q:=sx i hi
  unfold EL at q
  simp only[ry,Bool.not_eq_false'] at q
  obtain⟨⟨⟨⟨⟨⟨⟨q1,q2⟩,_⟩,_⟩,_⟩,q5⟩,q6⟩,_⟩:=q
  exact⟨zl79 q1,q2,zl79 q5,zl79 q6⟩
 have AM:∀d i,i+1+d<S.length→(S.getD i zS).1<(S.getD (i+1+d) zS).1:=by
  intro d
  induction d with
  |zero=>
   intro i hi
   have q:=zl101 (sy (i+1) hi).2.1
   rw[zl50];omega
  |succ d ih=>
   intro i hi
   have a:=ih i (by omega)
   have b:=zl101 (sy (i+1+d+1) (by omega)).2.1
   rw[show i+1+(d+1)=i+1+d+1 by omega]
   omega
 have cl3:S.length≤100000:=by
  by_cases q:S.length≤100000
  ·exact q
  ·exfalso
   have h1:=AM 0 0 (by omega)
   have h2:=AM 0 1 (by omega)
   have h3:=AM 0 2 (by omega)
   have h4:=AM 0 3 (by omega)
   have:=(sy 0 (by omega)).1
   have:=(sy 4 (by omega)).1
   simp only[Nat.reduceAdd] at h1 h2 h3 h4
   omega
 refine⟨cl3,n0.2,fun i hi=>(sy i hi).1,fun i j hij hj=>?_,fun i hi=>(sy i hi).2.2.1,fun i hi=>(sy i hi).2.2.2⟩
 have:=AM (j-i-1) i (by omega)
 rwa[show i+1+(j-i-1)=j by omega] at this
structure x4 (r:dz.D) (p:Nat):Prop where
 len:r.1.length≤2000
 GO:∀x∈r.1,0≤x∧x≤255
 p0:0≤r.2.1
 p1:r.2.1≤p
def xor_nn {a b:Int}(a0:0≤a)(a1:a<4611686018427387904)(b0:0≤b)(b1:b<4611686018427387904):0≤pZ .xor .i64 a b:=by
 obtain⟨m,rfl⟩:=Int.eq_ofNat_of_zero_le a0
 obtain⟨n,rfl⟩:=Int.eq_ofNat_of_zero_le b0
 unfold pZ
 have h1:(BitVec.ofInt IntKind.i64.bits (m:Int)).toNat=m:=by
  rw[BitVec.toNat_ofInt];simp only[IntKind.bits];omega
 have h2:(BitVec.ofInt IntKind.i64.bits (n:Int)).toNat=n:=by
  rw[BitVec.toNat_ofInt];simp only[IntKind.bits];omega
 have h3:m ^^^ n<2 ^ 62:=Nat.xor_lt_two_pow (by omega) (by omega)
 simp only[BitVec.toNat_xor,h1,h2]
 rw[wrap64 (by omega) (by omega)]
 omega
def Wu {l:List Int}(h:∀x∈l,0≤x∧x≤255)(i:Nat):0≤l.getD i 0∧l.getD i 0≤255:=by
 by_cases hi:i<l.length
 ·rw[getD_eq _ _ _ hi];exact h _ (zl96 hi)
 ·rw[zl26,zl8 (by omega)];simp
def L8 {a n:Int}(a0:0≤a)(h:1≤n):0≤Int.tmod a n∧Int.tmod a n<n:=⟨Int.tmod_nonneg _ a0,Int.tmod_lt_of_pos _ (by omega)⟩
def Yf {r:dz.D}{p:Nat}(I:x4 r p)(hp:p≤1000000000)(n:Int) :
  ∃k r',m6 (r,n)=some (k,r',())∧0≤k∧(1≤n→k<n)∧(n<1→k=0)∧x4 r' (p+1):=by
 have p0:=I.p0
 have p1:=I.p1
 have hl:=I.len
 have w1:IntKind.wrap .i64 (r.2.1+1)=r.2.1+1:=wrap64 (by omega) (by omega)
 have w2:IntKind.wrap .i64 (r.2.1+1-1)=r.2.1:=by rw[wrap64 (by omega) (by omega)];omega
 have I':x4 (r.1,r.2.1+1,r.2.2) (p+1):=⟨hl,I.GO,by show 0≤r.2.1+1;omega,by show r.2.1+1≤((p+1:Nat):Int);omega⟩
 simp only[m6,w1,w2]
 by_cases hn:n<1
 ·exact⟨0,_,by rw[zl86 hn];rfl,by omega,by omega,fun _=>rfl,I'⟩
 rw[zl90 hn]
 by_cases h0:r.1.length=0
 ·exact⟨0,_,by rw[h0];rfl,by omega,by omega,fun _=>rfl,I'⟩
 have e0:((r.1.length:Int)==0)=false:=zl89.2 (by omega)
 have en:(n != 0)=true:=bne_iff_ne.2 (by omega)
 have el:((r.1.length:Int) != 0)=true:=bne_iff_ne.2 (by omega)
 simp only[pO,e0,en,el,zU]
 by_cases hq:r.2.1<r.1.length
 ·obtain⟨b0,b1⟩:=Wu I.GO r.2.1.toNat
  have w3:IntKind.wrap .i64 (r.1.getD r.2.1.toNat 0)=r.1.getD r.2.1.toNat 0:=wrap64 (by omega) (by omega)
  obtain⟨k0,k1⟩:=L8 b0 (show 1≤n by omega)
  exact⟨_,_,by simp only[zl86 hq,zl86 p0,zl92,dW,w3],k0,fun _=>k1,by omega,I'⟩
 ·obtain⟨t0,t1⟩:=L8 p0 (show 1≤(r.1.length:Int) by omega)
  have w4:IntKind.wrap .i64 (r.2.1*7)=r.2.1*7:=wrap64 (by omega) (by omega)
  have w5:IntKind.wrap .i64 (r.2.1*7+3)=r.2.1*7+3:=wrap64 (by omega) (by omega)
  obtain⟨s0,s1⟩:=L8 (show 0≤r.2.1*7+3 by omega) (show 1≤(r.1.length:Int) by omega)
  obtain⟨a0,a1⟩:=Wu I.GO (Int.tmod r.2.1 r.1.length).toNat
  obtain⟨b0,b1⟩:=Wu I.GO (Int.tmod (r.2.1*7+3) r.1.length).toNat
  have d0:0≤Int.tdiv r.2.1 r.1.length:=Int.tdiv_nonneg p0 (by omega)
  have d1:Int.tdiv r.2.1 r.1.length≤r.2.1:=by rw[zl91 p0];exact Int.ediv_le_self _ p0
  simp only[zl90 hq,pO,w4,w5,zl86 t0,zl86 t1,zl86 s0,zl86 s1,zl92,dW]
  generalize r.1.getD (Int.tmod r.2.1 r.1.length).toNat 0=A at *
  generalize r.1.getD (Int.tmod (r.2.1*7+3) r.1.length).toNat 0=B at *
  generalize Int.tdiv r.2.1 r.1.length=D at *
  have u1:IntKind.wrap .i64 A=A:=wrap64 (by omega) (by omega)
  have u2:IntKind.wrap .i64 B=B:=wrap64 (by omega) (by omega)
  have u3:IntKind.wrap .i64 D=D:=wrap64 (by omega) (by omega)
  have u4:IntKind.wrap .i64 (A*131)=A*131:=wrap64 (by omega) (by omega)
  have u5:IntKind.wrap .i64 (B*1117)=B*1117:=wrap64 (by omega) (by omega)
  have u6:IntKind.wrap .i64 (r.2.1*29)=r.2.1*29:=wrap64 (by omega) (by omega)
  have u7:IntKind.wrap .i64 (D*53)=D*53:=wrap64 (by omega) (by omega)
  have u8:IntKind.wrap .i64 (A*131+B*1117)=A*131+B*1117:=wrap64 (by omega) (by omega)
  have u9:IntKind.wrap .i64 (A*131+B*1117+r.2.1*29)=A*131+B*1117+r.2.1*29:=wrap64 (by omega) (by omega)
  have u10:IntKind.wrap .i64 (A*131+B*1117+r.2.1*29+D*53)=A*131+B*1117+r.2.1*29+D*53:=wrap64 (by omega) (by omega)
  simp only[u1,u2,u3,u4,u5,u6,u7,u8,u9,u10]
  have x0:0≤A*131+B*1117+r.2.1*29+D*53:=by omega
  have x1:A*131+B*1117+r.2.1*29+D*53<1000000000000:=by omega
  generalize A*131+B*1117+r.2.1*29+D*53=X at *
  have y0:0≤Int.tdiv X 64:=Int.tdiv_nonneg x0 (by omega)
  have y1:Int.tdiv X 64≤X:=by rw[zl91 x0];exact Int.ediv_le_self _ x0
  have w6:IntKind.wrap .i64 (Int.tdiv X 64)=Int.tdiv X 64:=wrap64 (by omega) (by omega)
  obtain⟨k0,k1⟩:=L8 (xor_nn x0 (by omega) y0 (show Int.tdiv X 64<4611686018427387904 by omega)) (show 1≤n by omega)
  exact⟨_,_,by rw[w6],k0,fun _=>k1,by omega,I'⟩
def Rt {α:Type}(x:Option α)(Q:α→Prop):Prop:=∃y,x=some y∧Q y
section
variable {α β γ:Type} {P:β→Prop} {Q:γ→Prop} {f:α→Option β} {f':α→β} {x:α} {K:β→Option γ}
def Rt.ok {y:γ}(h:Q y):Rt (some y) Q:=⟨y,rfl,h⟩
def Rt.mono {P':β→Prop}{z:Option β}(h:Rt z P)(k:∀y,P y→P' y):Rt z P':=by obtain⟨y,e,hy⟩:=h;exact⟨y,e,k y hy⟩
def Rt.call [Inhabited β](h:Rt (f x) P)(k:∀y,P y→Rt (K y) Q):Rt (dj f x K) Q:=by
 obtain⟨y,e,hy⟩:=h
 unfold dj
 rw[zov e,e]
 exact k y hy
def Rt.box (fv:∀x y,f x=some y→f' x=y)(h:Rt (f x) P)(k:∀y,P y→Rt (K y) Q):Rt (CL f f' x K) Q:=by
 obtain⟨y,e,hy⟩:=h
 unfold CL
 rw[fv _ _ e,e]
 exact k y hy
def Rt.val [Inhabited β](h:Rt (f x) P)(k:∀y,P y→f x=some y→Rt (K y) Q):Rt (b8 (zog f x) K) Q:=by
 obtain⟨y,e,hy⟩:=h
 unfold b8
 rw[zov e]
 exact k y hy e
def Rt.all {l:List Bool}{z:Option γ}(h:kL l=true)(k:Rt z Q):Rt (bif kL l then z else none) Q:=by rw[h];exact k
def Rt.bif {c:Bool}{a b:Option γ}(h1:c=true→Rt a Q)(h2:c=false→Rt b Q):Rt (bif c then a else b) Q:=by cases c;exact h2 rfl;exact h1 rfl
def Rt.loop {X Y:Type}{r:X→Option (X⊕Y)}{z:X}{y0:Y}{P:Y→Prop}{K:Y→Option γ}(h:∃y,Comes r z y∧P y)(k:∀y,P y→Rt (K y) Q):Rt (ia r y0 z K) Q:=by
 obtain⟨y,c,hy⟩:=h
 unfold ia
 rw[cb c,cv c]
 exact k y hy
def Rt.sum {X Y:Type}{s:X⊕Y}{F:X→Option γ}{G:Y→Option γ}(h1:∀y,s = .inl y→Rt (F y) Q)(h2:∀y,s = .inr y→Rt (G y) Q):Rt (sumC s F G) Q:=by cases s;exact h1 _ rfl;exact h2 _ rfl
def DQ {X Y:Type}{r:X→Option (X⊕Y)}{n:Nat}{I:Nat→X→Prop}{P:Y→Prop}(hs:∀i x,i<n→I i x→(∃x',r x=some (.inl x')∧I (i+1) x')∨∃y,r x=some (.inr y)∧P y)
  (he:∀x,I n x→∃y,r x=some (.inr y)∧P y):∀i x,i≤n→I i x→∃y,Comes r x y∧P y:=by
 have main:∀d i x,i+d=n→I i x→∃y,Comes r x y∧P y:=by
  intro d
  induction d with
  |zero=>intro i x hi h;obtain⟨y,e,hy⟩:=he x (by rw[←show i=n by omega];exact h);exact⟨y,.out e,hy⟩
  |succ d ih=>
   intro i x hi h
   rcases hs i x (by omega) h with⟨x',e,h'⟩|⟨y,e,hy⟩
   ·obtain⟨y,c,hy⟩:=ih (i+1) x' (by omega) h';exact⟨y,.again e c,hy⟩
   ·exact⟨y,.out e,hy⟩
 exact fun i x hi h=>main (n-i) i x (by omega) h
end
def PkI (n:Int)(p:Nat)(y:Int×dz.D×Unit):Prop:=0≤y.1∧(1≤n→y.1<n)∧(n<1→y.1=0)∧x4 y.2.1 p
def A2 {r:dz.D}{p:Nat}(I:x4 r p)(hp:p≤1000000000)(n:Int):Rt (m6 (r,n)) (PkI n (p+1)):=by
 obtain⟨k,r',e,h⟩:=Yf I hp n
 exact⟨_,e,h⟩
def of_rt {r:dz.D}{p:Nat}(I:x4 r p)(hp:p≤1000000000){l:List (List UInt8)}(hl:l ≠ []):Rt (Lv (r,l)) (fun y=>y.1∈l∧x4 y.2.1 (p+1)):=by
 unfold Lv
 refine Rt.val (A2 I hp (l.length:Int)) fun y hy e=>?_
 have:0<l.length:=List.length_pos_iff.2 hl
 obtain⟨h0,h1,_,J⟩:=hy
 have h1:=h1 (by omega)
 refine Rt.all (by dsimp only;rw[zl86 h0,zl86 h1,e];rfl) (Rt.ok ⟨?_,J⟩)
 show l.getD y.1.toNat []∈l
 rw[getD_eq _ _ _ (by omega)]
 exact zl96 _
def ag5 {r:dz.D}{p:Nat}(I:x4 r p){n:Nat}(hp:p+n≤1000000000):Rt (Hu (r,(n:Int))) (fun y=>y.1.length=n∧x4 y.2.1 (p+n)):=by
 unfold Hu
 refine Rt.loop (P:=fun y=>y.2.2.length=n∧x4 y.2.1 (p+n)) (DQ (n:=n) (I:=fun i x=>∃r ls,x=(((i:Int),(),(),(n:Int)),r,ls)∧ls.length=i∧x4 r (p+i)) ?_ ?_ 0 _ (lB _) ⟨r,[],rfl,rfl,I⟩) fun y hy=>Rt.ok ⟨by rw[YH];exact hy.1,hy.2⟩
 ·rintro i _ hi ⟨r,ls,rfl,hl,I⟩
  obtain⟨k,r',e,h0,h1,_,J⟩:=Yf I (by omega) 8
  refine .inl ⟨_,?_,r',ls ++ [((UInt8.toNat (List.getD [(97:UInt8),98,99,100,101,102,103,104] (Int.toNat k) 0):Nat):Int)],rfl,by simp[hl],J⟩
  have v:=zov e
  have d1:decide (ls.length+1≤eV)=true:=by unfold eV;exact zdt
  simp only[PM,b8,e,v,qu,zl86 h0,zl86 (show k<(((8:Nat):Int)) from h1 (by omega)),d1,zU,zl92,dW,gl hi,zw (i:=i)]
 ·rintro _ ⟨r,ls,rfl,hl,I⟩
  exact⟨((),r,ls),by simp[PM,ld],hl,I⟩
def x4.up {r:dz.D}{p q:Nat}(I:x4 r p)(h:p≤q):x4 r q:=⟨I.len,I.GO,I.p0,by have:=I.p1;omega⟩
structure EvI (e:di.D):Prop where
 at0:0≤e.2.1
 at1:e.2.1≤1000000
 nu0:0≤e.2.2.1
 nu1:e.2.2.1≤70000
 nam:e.2.2.2.1.length≤1048576
 txt:e.2.2.2.2.1.length≤1000
structure EvW (w:fy.D):Prop where
 fT:w.1.2.2.2.1.2.1.length≤1000
 nam:∀x∈w.1.2.2.2.1.2.1,x.2.1.length≤1048576
 At:w.2.2.1.length≤1000000
section
variable {r:dz.D} {p:Nat} {w:fy.D} {e:di.D} {name:List UInt8} {who a k:Int}
def ev0 (I:x4 r p)(hp:p≤900000000)(W:EvW w):Rt (q11 (((),(),(),0),r,w,e)) (fun y=>∃a r',y=(((),(),(),a),r',w,e)∧(0≤a∧a≤1000000)∧x4 r' (p+2)):=by
 have hr:=W.At
 unfold q11
 refine Rt.val (A2 I (by omega) 2) fun y hy e1=>?_
 dsimp only
 refine Rt.all (by rw[e1];simp[zU,qu]) (Rt.bif (fun hc=>?_) fun _=>Rt.ok ⟨_,_,rfl,by omega,?_⟩)
 ·have hl:((w.2.2.1.length:Nat):Int)>0:=by
   cases h:decide (((w.2.2.1.length:Nat):Int)>0) with
   |true=>exact zl79 h
   |false=>rw[h] at hc;cases hc
  rw[zl86 hl]
  refine Rt.call (A2 hy.2.2.2 (by omega) _) fun z hz=>Rt.ok ⟨_,_,rfl,⟨hz.1,?_⟩,hz.2.2.2⟩
  have:=hz.2.1 (by omega)
  omega
 ·cases decide (((w.2.2.1.length:Nat):Int)>0)
  ·exact I.up (by omega)
  ·exact hy.2.2.2.up (by omega)
def ev2 (I:x4 r p)(hp:p≤950000000)(W:EvW w)(hn:name.length≤1048576):∃y,Comes Ni (((0:Int),(),who,(),(),name,a),r,w,e) y∧∃n' r',y=(((),(),who,n',a,()),r',e,w)∧n'.length≤1048576∧x4 r' (p+1000):=by
 have hi:=W.fT
 refine DQ (n:=w.1.2.2.2.1.2.1.length) (I:=fun i x=>∃n' r',x=(((i:Int),(),who,(),(),n',a),r',w,e)∧n'.length≤1048576∧x4 r' (p+i)) ?_ ?_ 0 _ (lB _) ⟨name,r,rfl,hn,I⟩
 ·rintro i _ hi ⟨n',r',rfl,hn',J⟩
  obtain⟨k,q,e1,h0,h1,_,J'⟩:=Yf J (by omega) 2
  have v:=zov e1
  have hm:=W.nam _ (zl96 hi)
  simp only[Ni,b8,BY,zog,e1,qu,gl hi,g0,zU,zl92,dW,zl94,getD_eq _ _ _ hi,zw (i:=i),zl99]
  have hq:x4 (bif w.1.2.2.2.1.2.1[i].1==Int.tmod who 2 then q else r') (p+(i+1)):=by
   cases w.1.2.2.2.1.2.1[i].1==Int.tmod who 2
   ·exact J.up (by omega)
   ·exact J'
  left
  cases (bif w.1.2.2.2.1.2.1[i].1==Int.tmod who 2 then k==0 else false)
  ·exact⟨_,rfl,_,_,rfl,hn',hq⟩
  ·exact⟨_,rfl,_,_,rfl,hm,hq⟩
 ·rintro _ ⟨n',r',rfl,hn',J⟩
  exact⟨_,by simp[Ni,ld],n',r',rfl,hn',J.up (by omega)⟩
def ev1 (I:x4 r p)(hp:p≤900000000)(W:EvW w)(hn:name.length≤1048576):Rt (q12 (((),who,(),(),name,a),r,w,e)) (fun y=>∃n' r',y=(((),(),who,n',a,()),r',e,w)∧n'.length≤1048576∧x4 r' (p+1001)):=by
 unfold q12
 refine Rt.call (A2 I (by omega) 3) fun y hy=>Rt.bif (fun _=>?_) fun _=>Rt.ok ⟨_,_,rfl,hn,hy.2.2.2.up (by omega)⟩
 refine Rt.loop (ev2 hy.2.2.2 (by omega) W hn) fun z hz=>?_
 obtain⟨n',r',rfl,h1,h2⟩:=hz
 exact Rt.ok ⟨_,_,rfl,h1,h2⟩
def ev3 (I:x4 r p)(hp:p≤900000000)(h0:0≤who)(h4:who<4):Rt (q13 (((),(),who,name,a,()),r,e,w)) (fun y=>(∃e' r',y = .inl ((),r',e')∧EvI e'∧x4 r' (p+3))∨∃r',y = .inr (((),(),name,who,a),r',e)∧x4 r' (p+3)):=by
 unfold q13
 refine Rt.all ?_ (Rt.bif (fun _=>?_) fun _=>Rt.ok (.inr ⟨_,rfl,I.up (by omega)⟩))
 ·dsimp only
  rw[zl86 h0]
  cases decide (who<((w.2.1.length:Nat):Int))<;>simp[zU]
 refine Rt.call (A2 I (by omega) 3) fun y hy=>Rt.bif (fun _=>?_) fun _=>Rt.ok (.inr ⟨_,rfl,hy.2.2.2.up (by omega)⟩)
 refine Rt.val (A2 hy.2.2.2 (by omega) 4) fun z hz e1=>?_
 refine Rt.val (A2 hz.2.2.2 (by omega) 2) fun u hu e2=>?_
 have z0:=hz.1
 have z1:=hz.2.1 (by omega)
 have ef:∀b:Bool,JS b=some (bif b then 1 else 0,()):=by intro b;cases b<;>rfl
 have ef':∀b:Bool,zog JS b=(bif b then 1 else 0,()):=by intro b;cases b<;>rfl
 have fl:0≤IntKind.wrap .i64 (who*(bif u.1==0 then(1:Int) else 0))∧IntKind.wrap .i64 (who*(bif u.1==0 then(1:Int) else 0))≤1000000:=by
  cases u.1==0
  ·simp[wrap64]
  ·simp only[dW,Int.mul_one];rw[wrap64 (by omega) (by omega)];omega
 refine Rt.all ?_ (Rt.ok (.inl ⟨_,_,rfl,?_,hu.2.2.2⟩))
 ·simp only[e1,e2,ef,qu,zl86 z0,zl86 (show z.1<(((4:Nat):Int)) from z1),zU,zl92]
 ·simp only[ef']
  exact⟨fl.1,fl.2,by simp,by simp,by simp,by simp⟩
end
section
variable {r:dz.D} {p:Nat} {w:fy.D} {e:di.D} {name:List UInt8} {who a k:Int}
def ev4:Rt (q14 (((),(),name,who,a,k),r,e)) (fun y=>∃v,y=((v,(),(),name,who,a,k),r,e)):=by
 unfold q14
 repeat' refine Rt.bif (fun _=>?_) fun _=>?_
 all_goals exact Rt.ok ⟨_,rfl⟩
def ev5:Rt (q15 (((),name,who,(),a,k),r,e)) (fun y=>∃v,y=((v,(),name,who,(),a,k),r,e)):=by
 unfold q15
 repeat' refine Rt.bif (fun _=>?_) fun _=>?_
 all_goals exact Rt.ok ⟨_,rfl⟩
def ev6:Rt (q16 (((),(),a,name,k),r,e)) (fun y=>∃v,y=((v,(),(),a,name,k),r,e)):=by
 unfold q16
 repeat' refine Rt.bif (fun _=>?_) fun _=>?_
 all_goals exact Rt.ok ⟨_,rfl⟩
def ev7:Rt (q17 (((),(),a,name,k),r,e)) (fun y=>∃v,y=((v,(),(),a,name,k),r,e)):=by
 unfold q17
 repeat' refine Rt.bif (fun _=>?_) fun _=>?_
 all_goals exact Rt.ok ⟨_,rfl⟩
def ev8:Rt (q18 (((),a,k),r,e)) (fun y=>∃v,y=((v,(),a,k),r,e)):=by
 unfold q18
 repeat' refine Rt.bif (fun _=>?_) fun _=>?_
 all_goals exact Rt.ok ⟨_,rfl⟩
def ev9:Rt (q19 (((),a,k),r,e)) (fun y=>∃v,y=((v,(),a),r,e)):=by
 unfold q19
 repeat' refine Rt.bif (fun _=>?_) fun _=>?_
 all_goals exact Rt.ok ⟨_,rfl⟩
def En {b:Bool}{n:Int}{text:List UInt8}(h:0≤a∧a≤1000000)(hn:name.length≤1048576)(n0:0≤n:=by omega)(n1:n≤70000:=by omega)(ht:text.length≤1000:=by simp):EvI (k,a,n,name,text,b,()):=⟨h.1,h.2,n0,n1,hn,ht⟩
def pk {n:Int}{y:Int×dz.D×Unit}(h:PkI n p y)(h1:1≤n:=by omega):0≤y.1∧y.1<n:=⟨h.1,h.2.1 h1⟩
def Io:([]:List UInt8).length≤1048576:=lB _
def ah0 (I:x4 r p)(hp:p≤800000000)(W:EvW w):Rt (q72 (r,w)) (fun y=>EvI y.1∧x4 y.2.1 (p+2000)):=by
 unfold q72
 refine Rt.box q11_v (ev0 I (by omega) W) ?_
 rintro _ ⟨a,r,rfl,ha,I⟩
 refine Rt.call (of_rt I (by omega) (by simp)) fun y hy=>?_
 obtain⟨name,r,u⟩:=y
 obtain⟨hn,I⟩:=hy
 have hn:name.length≤1048576:=by simp at hn;rcases hn with rfl|rfl|rfl<;>simp
 refine Rt.call (A2 I (by omega) 4) fun y hy=>?_
 obtain⟨w0,w4⟩:=pk hy
 refine Rt.box q12_v (ev1 hy.2.2.2 (by omega) W hn) ?_
 rintro _ ⟨name,r,rfl,hn,I⟩
 refine Rt.box q13_v (ev3 I (by omega) w0 w4) ?_
 rintro _ (⟨e',r,rfl,h1,h2⟩|⟨r,rfl,I⟩)
 ·exact Rt.ok ⟨h1,h2.up (by omega)⟩
 refine Rt.call (A2 I (by omega) 40) fun q hq=>?_
 have I:=hq.2.2.2
 refine Rt.box q14_v ev4 ?_
 rintro _ ⟨_,rfl⟩
 refine Rt.bif (fun _=>?_) fun _=>Rt.bif (fun _=>?_) fun _=>?_
 ·refine Rt.val (A2 I (by omega) 2) fun y1 h1 e1=>?_
  refine Rt.val (A2 h1.2.2.2 (by omega) 30) fun y2 h2 e2=>?_
  refine Rt.val (A2 h2.2.2.2 (by omega) 90) fun y3 h3 e3=>?_
  refine Rt.val (A2 h3.2.2.2 (by omega) 250) fun y4 h4 e4=>?_
  refine Rt.val (A2 h4.2.2.2 (by omega) 3) fun y5 h5 e5=>?_
  obtain⟨a2,b2⟩:=pk h2
  obtain⟨a3,b3⟩:=pk h3
  obtain⟨a4,b4⟩:=pk h4
  obtain⟨a5,b5⟩:=pk h5
  obtain⟨n,hn0,hn1⟩:∃n:Nat,List.getD [IntKind.wrap .i64 (1+y2.1),IntKind.wrap .i64 (1+y3.1),IntKind.wrap .i64 (1+y4.1)] (Int.toNat y5.1) 0=(n:Int)∧n≤250:=by
   rw[wrap64 (by omega) (by omega),wrap64 (by omega) (by omega),wrap64 (by omega) (by omega)]
   obtain h|h|h:Int.toNat y5.1=0∨Int.toNat y5.1=1∨Int.toNat y5.1=2:=by omega
   ·exact⟨(1+y2.1).toNat,by rw[h];simp;omega,by omega⟩
   ·exact⟨(1+y3.1).toNat,by rw[h];simp;omega,by omega⟩
   ·exact⟨(1+y4.1).toNat,by rw[h];simp;omega,by omega⟩
  dsimp only
  rw[hn0]
  refine Rt.val (ag5 h5.2.2.2 (by omega)) fun y6 h6 e6=>?_
  dsimp only at e1
  refine Rt.all (by simp only[e1,e2,e3,e4,e5,e6,qu,zl86 a5,zl86 (show y5.1<((3:Nat):Int) from b5),zU,zl92]) (Rt.ok ⟨En ?_ hn (ht:=by rw[h6.1];omega),h6.2.up (by omega)⟩)
  have:=pk h1;omega
 ·refine Rt.call (A2 I (by omega) 2) fun y h=>Rt.ok ⟨En ?_ hn,h.2.2.2.up (by omega)⟩
  have:=pk h;omega
 refine Rt.box q15_v ev5 ?_
 rintro _ ⟨_,rfl⟩
 refine Rt.bif (fun _=>Rt.ok ⟨En (by dsimp only;omega) hn,I.up (by omega)⟩) fun _=>Rt.bif (fun _=>?_) fun _=>Rt.bif (fun _=>?_) fun _=>?_
 ·refine Rt.call (A2 I (by omega) 4) fun y h=>Rt.ok ⟨En ?_ Io,h.2.2.2.up (by omega)⟩
  have:=pk h;omega
 ·refine Rt.call (A2 I (by omega) 4) fun y h=>Rt.ok ⟨En ?_ Io,h.2.2.2.up (by omega)⟩
  have:=pk h;omega
 refine Rt.box q16_v ev6 ?_
 rintro _ ⟨_,rfl⟩
 refine Rt.bif (fun _=>Rt.ok ⟨En (by omega) Io,I.up (by omega)⟩) fun _=>?_
 refine Rt.box q17_v ev7 ?_
 rintro _ ⟨_,rfl⟩
 refine Rt.bif (fun _=>?_) fun _=>Rt.bif (fun _=>Rt.ok ⟨En ha Io,I.up (by omega)⟩) fun _=>Rt.bif (fun _=>?_) fun _=>Rt.bif (fun _=>?_) fun _=>?_
 ·refine Rt.call (A2 I (by omega) 4) fun y h=>Rt.ok ⟨En ?_ Io,h.2.2.2.up (by omega)⟩
  have:=pk h;omega
 ·refine Rt.val (A2 I (by omega) 256) fun y1 h1 e1=>?_
  refine Rt.val (A2 h1.2.2.2 (by omega) 256) fun y2 h2 e2=>?_
  have:=pk h1
  have:=pk h2
  dsimp only at e1
  refine Rt.all (by simp only[e1,e2,qu,zU,zl92]) (Rt.ok ⟨?_,h2.2.2.2.up (by omega)⟩)
  rw[wrap64 (n:=y1.1*256) (by omega) (by omega),wrap64 (by omega) (by omega)]
  exact En ha Io
 ·refine Rt.val (A2 I (by omega) 2) fun y1 h1 e1=>?_
  refine Rt.val (A2 h1.2.2.2 (by omega) 40) fun y2 h2 e2=>?_
  refine Rt.val (A2 h2.2.2.2 (by omega) 3) fun y3 h3 e3=>?_
  have q1:=pk h1
  obtain⟨a2,b2⟩:=pk h2
  obtain⟨a3,b3⟩:=pk h3
  have hb:0≤List.getD [(0:Int),y2.1,9999] (Int.toNat y3.1) 0∧List.getD [(0:Int),y2.1,9999] (Int.toNat y3.1) 0≤70000:=by
   obtain h|h|h:Int.toNat y3.1=0∨Int.toNat y3.1=1∨Int.toNat y3.1=2:=by omega
   all_goals rw[h];simp;try omega
  dsimp only at e1
  refine Rt.all (by simp only[e1,e2,e3,qu,zl86 a3,zl86 (show y3.1<((3:Nat):Int) from b3),zU,zl92]) ?_
  refine Rt.call (A2 h3.2.2.2 (by omega) 3) fun y4 h4=>Rt.bif (fun _=>?_) fun _=>Rt.ok ⟨En (by omega) hn hb.1 hb.2,h4.2.2.2.up (by omega)⟩
  refine Rt.val (A2 h4.2.2.2 (by omega) 90) fun y5 h5 e5=>?_
  obtain⟨a5,b5⟩:=pk h5
  obtain⟨n,hn0⟩:=Int.eq_ofNat_of_zero_le (show 0≤1+y5.1 by omega)
  rw[wrap64 (by omega) (by omega),hn0]
  refine Rt.val (ag5 h5.2.2.2 (by omega)) fun y6 h6 e6=>?_
  exact Rt.all (by simp only[e5,e6,qu,zU,zl92]) (Rt.ok ⟨En (by omega) hn hb.1 hb.2 (by rw[h6.1];omega),h6.2.up (by omega)⟩)
 refine Rt.box q18_v ev8 ?_
 rintro _ ⟨_,rfl⟩
 refine Rt.bif (fun _=>Rt.ok ⟨En (by omega) Io,I.up (by omega)⟩) fun _=>?_
 refine Rt.box q19_v ev9 ?_
 rintro _ ⟨_,rfl⟩
 exact Rt.bif (fun _=>Rt.ok ⟨En ha Io,I.up (by omega)⟩) fun _=>Rt.ok ⟨En ha Io,I.up (by omega)⟩
end
def UF {w:eL.D}(h:Ej w=true):(0≤w.1∧w.1≤6)∧(0≤w.2.1∧w.2.1≤99999)∧(1≤w.2.2.1∧w.2.2.1≤99999)∧(0≤w.2.2.2.1∧w.2.2.2.1≤99999)∧(0≤w.2.2.2.2.1∧w.2.2.2.2.1≤99999)∧w.2.2.2.2.2.1.length≤6∧w.2.2.2.2.2.2.1.length≤80:=by
 unfold Ej at h
 simp only[bB] at h
 obtain⟨⟨⟨⟨⟨h1,h2⟩,h3⟩,h4⟩,h5⟩,h6⟩:=h
 have h1:=zl79 h1
 have h2:=zl79 h2
 have h3:=zl79 h3
 have h4:=zl79 h4
 have h5:w.2.2.2.2.2.2.1.length≤80:=by simp at h5;omega
 refine⟨?_,h1,h2,h3,h4,?_,h5⟩
 ·cases e1:w.1==1 with
  |true=>have:=zl78.1 e1;omega
  |false=>
  rw[e1] at h6
  simp only[pO,bB] at h6
  have h6:=h6.2
  cases e6:w.1==6 with
  |true=>have:=zl78.1 e6;omega
  |false=>
  cases e2:w.1==2 with
  |true=>have:=zl78.1 e2;omega
  |false=>
  cases e3:w.1==3 with
  |true=>have:=zl78.1 e3;omega
  |false=>
  cases e4:w.1==4 with
  |true=>have:=zl78.1 e4;omega
  |false=>
  cases e5:w.1==5 with
  |true=>have:=zl78.1 e5;omega
  |false=>rw[e6,e2,e3,e4,e5] at h6;cases h6
 ·cases e1:w.1==1 with
  |true=>rw[e1] at h6;simp only[dW,bB] at h6;exact(Lg _ h6.1).2
  |false=>rw[e1] at h6;simp only[pO,bB,zl78] at h6;rw[h6.1];simp
def HY {n:Int}(h0:0≤n)(h1:n≤9999999):Rt (Ar n) (fun y=>y.1.length≤7):=by
 obtain⟨k,rfl⟩:=Int.eq_ofNat_of_zero_le h0
 exact⟨_,SX k (by omega),Fm k (by omega)⟩
def aqg {w:eL.D}(h:Ej w=true):Rt (Ly w) (fun y=>y.1.length≤160):=by
 obtain⟨h1,h2,h3,h4,h5,h6,h7⟩:=UF h
 unfold Ly
 refine Rt.val (HY h1.1 (by omega)) fun y1 k1 e1=>?_
 refine Rt.val (HY h2.1 (by omega)) fun y2 k2 e2=>?_
 refine Rt.val (HY (show 0≤w.2.2.1 by omega) (by omega)) fun y3 k3 e3=>?_
 refine Rt.val (HY h4.1 (by omega)) fun y4 k4 e4=>?_
 refine Rt.val (HY h5.1 (by omega)) fun y5 k5 e5=>?_
 refine Rt.all ?_ (Rt.ok ?_)
 ·simp[e1,e2,e3,e4,e5,qu,zU,eV]
  omega
 ·simp only[eY,zl6,rA]
  omega
def sum_rt {t:List UInt8}(ht:t.length≤1048576):Rt (Kd t) (fun y=>y.1.length≤7):=by
 unfold Kd
 refine Rt.loop (P:=fun y=>0≤y.1∧y.1≤1000003) (DQ (n:=t.length) (I:=fun i x=>∃n:Int,x=(((i:Int),t,n),())∧0≤n∧n≤1000003) ?_ ?_ 0 _ (lB _) ⟨1,rfl,by omega⟩) fun y hy=>?_
 ·rintro i _ hi ⟨n,rfl,h0,h1⟩
  have hb:(t.getD i 0).toNat<256:=UInt8.toNat_lt _
  have w1:IntKind.wrap .i64 (n*31)=n*31:=wrap64 (by omega) (by omega)
  have w2:IntKind.wrap .i64 (((t.getD i 0).toNat:Nat):Int)=(((t.getD i 0).toNat:Nat):Int):=wrap64 (by omega) (by omega)
  have w3:IntKind.wrap .i64 (n*31+(((t.getD i 0).toNat:Nat):Int))=n*31+(((t.getD i 0).toNat:Nat):Int):=wrap64 (by omega) (by omega)
  have w4:IntKind.wrap .i64 (n*31+(((t.getD i 0).toNat:Nat):Int)+7)=n*31+(((t.getD i 0).toNat:Nat):Int)+7:=wrap64 (by omega) (by omega)
  obtain⟨m0,m1⟩:=L8 (show 0≤n*31+(((t.getD i 0).toNat:Nat):Int)+7 by omega) (show 1≤(1000003:Int) by omega)
  exact .inl ⟨_,by simp only[PG,gl hi,g0,zl94,zU,zl92,dW,w1,w2,w3,w4,zw (i:=i)],_,rfl,m0,by omega⟩
 ·rintro _ ⟨n,rfl,h⟩
  exact⟨(n,()),by simp[PG],h⟩
 refine Rt.call (HY hy.1 (by omega)) fun z hz=>?_
 refine Rt.loop (P:=fun y=>y.1.length≤7) (DQ (n:=7) (I:=fun i x=>∃s,x=(s,())∧i≤s.length∧s.length≤7) ?_ ?_ 0 _ (lB _) ⟨z.1,rfl,lB _,hz⟩) fun y hy=>Rt.ok hy
 ·rintro i _ hi ⟨s,rfl,h1,h2⟩
  by_cases h7:s.length=7
  ·exact .inr ⟨(s,()),by simp[Nd,h7],h2⟩
  ·have d1:decide ((s.length:Int)<7)=true:=zdt
   have d2:decide (1+s.length≤eV)=true:=zl86 (by unfold eV;omega)
   exact .inl ⟨(48::s,()),by simp only[Nd,d1,d2,zU,dW];rfl,_,rfl,by simp;omega,by simp;omega⟩
 ·rintro _ ⟨s,rfl,h1,h2⟩
  have h7:s.length=7:=by omega
  exact⟨(s,()),by simp[Nd,h7],h2⟩
def ahe {w:eL.D}(hn:w.2.2.2.2.2.1.length≤9999999):Rt (Hs w) (fun y=>y.1.length≤200):=by
 have a:=Qa w hn
 unfold Hs
 refine Rt.call (P:=fun y=>y.1=Ej w) ⟨_,a,rfl⟩ fun y hy=>Rt.bif (fun _=>Rt.ok (by simp)) fun hc=>?_
 rw[hy] at hc
 have hw:Ej w=true:=by simpa using hc
 refine Rt.call (aqg hw) fun z hz=>Rt.val (sum_rt (by omega)) fun u hu e=>?_
 refine Rt.all ?_ (Rt.ok ?_)
 ·simp only[e,qu,zU,eV,Bool.and_true];exact zdt
 ·simp only[eY];omega
def ah3 {s:List UInt8}{a:Nat}(b:Int)(hs:s.length≤1048576):Rt (Co (s,(a:Int),b)) (fun y=>y.1 = -1∨((a:Int)≤y.1∧y.1<s.length)):=by
 unfold Co
 by_cases ha:a<s.length
 ·refine Rt.loop (P:=fun y=>∀z,y = .inl z→(a:Int)≤z.1∧z.1<(s.length:Int)) (DQ (n:=s.length) (I:=fun i x=>x=(((i:Int),b,s),())∧a≤i) ?_ ?_ a _ (by omega) ⟨rfl,bA _⟩) fun y hy=>Rt.sum (fun z e=>Rt.ok (.inr (hy z e))) fun _ _=>Rt.ok (.inl rfl)
  ·rintro i _ hi ⟨rfl,h⟩
   simp only[FA,gl hi,g0,zl94,zU,zl92,dW,zw (i:=i)]
   cases (((s.getD i 0).toNat:Nat):Int)==b
   ·exact .inl ⟨_,rfl,rfl,by omega⟩
   ·exact .inr ⟨_,rfl,by rintro _ ⟨⟩;exact⟨by dsimp only;omega,by dsimp only;omega⟩⟩
  ·rintro _ ⟨rfl,_⟩
   exact⟨.inr ((),()),by simp[FA],by rintro _ ⟨⟩⟩
 ·have h:¬((a:Int)<(s.length:Int)):=by omega
  refine Rt.loop (P:=fun y=>y = .inr ((),())) ⟨.inr ((),()),.out (by simp[FA,h]),rfl⟩ fun y hy=>?_
  subst hy
  exact Rt.ok (.inl rfl)
def aqc {t:List UInt8}(ht:t.length≤1048576):Rt (q63 t) (fun y=>(y.1.2=true→Ej y.1.1=true)):=by
 unfold q63
 refine Rt.call (ah3 (a:=7) 58 ht) fun y hy=>Rt.bif (fun _=>Rt.ok (by intro h;cases h)) fun hc=>?_
 have h0:7≤y.1∧y.1<t.length:=by
  rcases hy with h|h
  ·rw[h] at hc;cases hc
  ·exact h
 obtain⟨k,hk⟩:=Int.eq_ofNat_of_zero_le (show 0≤y.1 by omega)
 obtain⟨l,e1,hl⟩:=aar (List.take (Int.toNat (y.1-7)) (List.drop (Int.toNat 7) t)) (by simp;omega)
 refine Rt.val (P:=fun z=>z=(l,())) ⟨_,e1,rfl⟩ fun z hz e1=>?_
 subst hz
 refine Rt.all ?_ (Rt.bif (fun _=>Rt.ok (by intro h;cases h)) fun h6=>?_)
 ·rw[e1];simp[qu,zU];omega
 have h6:l.length=6:=by simp at h6;omega
 have nm:∀i:Nat,i<6→Rt (As (l.getD i [])) (fun _=>True):=by
  intro i hi
  have:l.getD i []∈l:=by rw[getD_eq _ _ _ (by omega)];exact zl96 _
  have:=hl _ this
  rw[zl3,zl4] at this
  exact⟨_,Jx _ (by omega),trivial⟩
 refine Rt.val (nm 4 (by omega)) fun y1 _ e2=>?_
 refine Rt.val (nm 3 (by omega)) fun y2 _ e3=>?_
 refine Rt.val (nm 2 (by omega)) fun y3 _ e4=>?_
 refine Rt.val (nm 1 (by omega)) fun y4 _ e5=>?_
 refine Rt.val (nm 0 (by omega)) fun y5 _ e6=>?_
 have wk:IntKind.wrap .i64 (y.1+1)=y.1+1:=wrap64 (by omega) (by omega)
 refine Rt.all ?_ ?_
 ·have e2':As (l.getD (Int.toNat 4) [])=some y1:=e2
  have e3':As (l.getD (Int.toNat 3) [])=some y2:=e3
  have e4':As (l.getD (Int.toNat 2) [])=some y3:=e4
  have e5':As (l.getD (Int.toNat 1) [])=some y4:=e5
  have e6':As (l.getD (Int.toNat 0) [])=some y5:=e6
  dsimp only
  simp only[wk,h6,e2',e3',e4',e5',e6',qu,zU]
  simp
  omega
 have h5:(l.getD (Int.toNat 5) []).length≤9999999:=by
  have:l.getD 5 []∈l:=by rw[getD_eq _ _ _ (by omega)];exact zl96 _
  have:=hl _ this
  rw[zl3,zl4] at this
  show(l.getD 5 []).length≤_
  omega
 dsimp only
 rw[wk]
 have a:=Qa (y5.1,y4.1,y3.1,y2.1,y1.1,l.getD (Int.toNat 5) [],List.take (Int.toNat ((t.length:Int)-(y.1+1))) (List.drop (Int.toNat (y.1+1)) t),()) h5
 refine Rt.val (P:=fun z=>z.1=Ej (y5.1,y4.1,y3.1,y2.1,y1.1,l.getD (Int.toNat 5) [],List.take (Int.toNat ((t.length:Int)-(y.1+1))) (List.drop (Int.toNat (y.1+1)) t),())) ⟨_,a,rfl⟩ fun z hz e7=>?_
 refine Rt.val (ahe h5) fun u _ e8=>?_
 refine Rt.all (by simp only[e7,e8,qu,zU,zl99,zl92]) (Rt.bif (fun _=>Rt.ok (by intro h;cases h)) fun hv=>Rt.ok fun _=>?_)
 rw[←hz]
 cases hz1:z.1 with
 |true=>rfl
 |false=>rw[hz1] at hv;cases hv
end Pl
open Go Go.Ab
namespace Pc
def w9 (l:List Int):Nat:=l.foldl (fun m x=>m |||2 ^ x.toNat) 0
def acY (l:List Int)(x:Int):w9 (l ++ [x])=w9 l |||2 ^ x.toNat:=by simp[w9,List.foldl_append]
def ajE (l:List Int)(j:Nat):∀m:Nat,(l.foldl (fun m x=>m |||2 ^ x.toNat) m).testBit j=(m.testBit j || l.any fun x=>decide (x.toNat=j)):=by
 induction l with
 |nil=>simp
 |cons x l ih=>
  intro m
  rw[List.foldl_cons,ih]
  simp[Nat.testBit_or,Nat.testBit_two_pow,Bool.or_assoc]
def Pp (l:List Int)(j:Nat):(w9 l).testBit j=l.any fun x=>decide (x.toNat=j):=by
 rw[w9,ajE];simp
def mk_lt (l:List Int)(h:∀x∈l,x<24):∀m:Nat,m<2 ^ 24→l.foldl (fun m x=>m |||2 ^ x.toNat) m<2 ^ 24:=by
 induction l with
 |nil=>intro m hm;exact hm
 |cons x l ih=>
  intro m hm
  rw[List.foldl_cons]
  refine ih (fun y hy=>h y (gZ _ hy)) _ (Nat.or_lt_two_pow hm ?_)
  exact Nat.pow_lt_pow_right (by decide) (by have:=h x me;omega)
def Pn (l:List Int)(h:∀x∈l,x<24):w9 l<2 ^ 24:=mk_lt l h 0 (by decide)
def Tn {a:Nat}(ha:a<2 ^ 24):(BitVec.ofInt 32 (a:Int)).toNat=a:=by
 rw[BitVec.ofInt_natCast,BitVec.toNat_ofNat];omega
def wrap32 {n:Nat}(h:n<2 ^ 24):IntKind.wrap .u32 (n:Int)=(n:Int):=by
 simp[IntKind.wrap,IntKind.bits,IntKind.signed];omega
def or32 {a b:Nat}(ha:a<2 ^ 24)(hb:b<2 ^ 24):pZ .or .u32 (a:Int) (b:Int)=((a |||b:Nat):Int):=by
 show IntKind.wrap .u32 (((BitVec.ofInt 32 (a:Int) |||BitVec.ofInt 32 (b:Int)).toNat:Nat):Int)=_
 rw[BitVec.toNat_or,Tn ha,Tn hb,wrap32 (Nat.or_lt_two_pow ha hb)]
def and32 {a b:Nat}(ha:a<2 ^ 24)(hb:b<2 ^ 24):pZ .and .u32 (a:Int) (b:Int)=((a &&& b:Nat):Int):=by
 show IntKind.wrap .u32 (((BitVec.ofInt 32 (a:Int) &&& BitVec.ofInt 32 (b:Int)).toNat:Nat):Int)=_
 rw[BitVec.toNat_and,Tn ha,Tn hb,wrap32 (Nat.and_lt_two_pow _ hb)]
def shl32 {n:Int}(h:0≤n)(h':n<24):IntKind.wrap .u32 ((1:Int)*(2:Int) ^ Min.min (Int.toNat n) (IntKind.bits .u32))=((2 ^ n.toNat:Nat):Int):=by
 obtain⟨k,rfl⟩:∃k:Nat,n=k:=⟨n.toNat,by omega⟩
 have hk:k<24:=by omega
 have hm:min k 32=k:=by omega
 have h2:2 ^ k<2 ^ 24:=Nat.pow_lt_pow_right (by decide) hk
 have e:(1:Int)*(2:Int) ^ Min.min (Int.toNat k) (IntKind.bits .u32)=((2 ^ k:Nat):Int):=by
  simp[IntKind.bits,hm]
 rw[e,wrap32 h2];simp
def pow24 {n:Int}(h':n<24):2 ^ n.toNat<2 ^ 24:=Nat.pow_lt_pow_right (by decide) (by omega)
def ai6 (row:List Int)(hl:row.length≤4611686018427387904)(h:∀x∈row,0≤x∧x<24):IK row=some ((w9 row:Int),()):=by
 have hc:Comes Nf (((0:Int),(0:Int),row,(row.length:Int)),()) ((w9 row:Int),()):=by
  refine Bw (st:=fun i=>(((i:Int),(w9 (row.take i):Int),row,(row.length:Int)),())) (n:=row.length) ?_ ?_ 0 (lB _)
  ·intro i hi
   have h0:=h row[i] (by simp)
   have h3:=A5 (i:=i) (by omega)
   have e:w9 (row.take (i+1))=w9 (row.take i) |||2 ^ (row[i]).toNat:=by rw[zl88 hi,acY]
   have h4:=shl32 h0.1 h0.2
   have h5:=or32 (Pn (row.take i) fun x hx=>(h x (List.mem_of_mem_take hx)).2) (pow24 h0.2)
   simp only[Nf,getD_eq _ _ _ hi,zl94,h3,h4,h5,e,zU,Int.ofNat_lt,hi,h0.1,zl73,dW,zl111,zl92]
  ·simp[Nf]
 simp[IK,cb hc,cv hc,ld]
def ahf {i:Nat}(h:i≤4611686018427387904)(h0:0<i):IntKind.wrap .i64 ((i:Int)-1)=((i-1:Nat):Int):=by rw[wrap64]<;>omega
def fN (s:fk.D)(i:Nat):gv.D:=s.2.2.1.getD i ([],[],())
def lq (s:fk.D)(i:Nat):Int:=(fN s i).1.getD 0 0
def z4 (s:fk.D)(i:Nat):Bool:=
 Cw (fN s i).1 s.1&&decide ((fN s i).1.length≠0)&&decide (((fN s i).2.1.length:Int)=s.2.1)&&(decide (i=0) || decide (lq s (i-1)<lq s i))
def SA (s:fk.D)(i:Nat)(h:i<s.2.2.1.length):fN s i∈s.2.2.1:=by
 rw[fN,getD_eq _ _ _ h];simp
def apz (s:fk.D)(hs:Fk s)(h1:1≤s.1∧s.1≤24):Comes Kk (((0:Int),()),s) (if mw s.2.2.1.length (z4 s)=true then .inr ((),s) else .inl (false,())):=by
 have CG:∀i,i<s.2.2.1.length→(∀j,j<i→z4 s j=true)→Kk (((i:Int),()),s)=bif z4 s i then some (.inl ((((i+1:Nat):Int),()),s)) else some (.inr (.inl (false,()))):=by
  intro i hi hp
  have hm:=SA s i hi
  have hr:=apx (fN s i).1 s.1 (hs.2 _ hm) (by omega) (by omega)
  have hr':zog Ho ((fN s i).1,s.1)=(Cw (fN s i).1 s.1,()):=by simp only[zog,hr]
  have eA:List.getD s.2.2.1 i ([],[],())=fN s i:=rfl
  have hi':decide ((i:Int)<(s.2.2.1.length:Int))=true:=by simpa using hi
  have h0:decide ((0:Int)≤(i:Int))=true:=by simp
  have w:=A5 (i:=i) (by have:=hs.1;omega)
  have d1:(((fN s i).1.length:Int)==0) = !decide ((fN s i).1.length≠0):=by
   by_cases e:(fN s i).1.length=0<;>simp[e]
  have d2:(((fN s i).2.1.length:Int) != s.2.1) = !decide (((fN s i).2.1.length:Int)=s.2.1):=rfl
  have d3:decide ((0:Int)<((fN s i).1.length:Int))=decide ((fN s i).1.length≠0):=by
   by_cases e:(fN s i).1.length=0<;>simp[e];omega
  rcases zl83 i with hz|hz
  ·subst hz
   have g0:decide (((0:Nat):Int)>0)=false:=by decide
   cases hA:Cw (fN s 0).1 s.1<;>cases hB:decide ((fN s 0).1.length≠0)<;>cases hC:decide (((fN s 0).2.1.length:Int)=s.2.1)<;>
    simp only[Kk,hi',h0,zl94,eA,hr',hr,d1,d2,d3,g0,hA,hB,hC,w,z4,zU,qu,dW,pO,zl70,zl98,Bool.and_true,zl74,zl76,zl99,zl92,zl73]
  ·have g0:decide ((i:Int)>0)=true:=by simpa using hz
   have gz:decide (i=0)=false:=by simp;omega
   have w2:=ahf (i:=i) (by have:=hs.1;omega) hz
   have eB:List.getD s.2.2.1 (i-1) ([],[],())=fN s (i-1):=rfl
   have hq:=hp (i-1) (by omega)
   simp only[z4,bB,mS] at hq
   have q1:decide ((0:Int)<((fN s (i-1)).1.length:Int))=true:=by have:=hq.1.1.2;simp;omega
   have q2:decide (((i-1:Nat):Int)<(s.2.2.1.length:Int))=true:=by simp;omega
   have q3:decide ((0:Int)≤((i-1:Nat):Int))=true:=by simp
   have f1:List.getD (fN s i).1 0 0=lq s i:=rfl
   have f2:List.getD (fN s (i-1)).1 0 0=lq s (i-1):=rfl
   have d4:decide (lq s (i-1)≥lq s i) = !decide (lq s (i-1)<lq s i):=by
    by_cases e:lq s (i-1)<lq s i
    ·have:¬lq s i≤lq s (i-1):=by omega
     simp[e,this]
    ·have:lq s i≤lq s (i-1):=by omega
     simp[e,this]
   cases hA:Cw (fN s i).1 s.1<;>cases hB:decide ((fN s i).1.length≠0)<;>cases hC:decide (((fN s i).2.1.length:Int)=s.2.1)<;>cases hD:decide (lq s (i-1)<lq s i)<;>
    simp only[Kk,hi',h0,zl94,Int.toNat_zero,eA,eB,f1,f2,hr',hr,d1,d2,d3,d4,g0,gz,hA,hB,hC,hD,w,w2,q1,q2,q3,z4,zU,qu,dW,pO,zl70,zl98,Bool.and_true,zl74,zl99,Bool.or_false,zl92,zl73,Int.le_refl]
 refine Cr (fun i=>(((i:Int),()),s)) ?_ ?_ ?_
 ·intro i hi hp h
  rw[CG i hi hp,h];rfl
 ·intro i hi hp h
  rw[CG i hi hp,h];rfl
 ·simp[Kk,ld]
def F4 (row:List Int)(n:Int):Bool:= !mw row.length fun j=> !(row.getD j 0==n)
def Xb (row:List Int)(n:Int):F4 row n=true↔∃j,j<row.length∧row.getD j 0=n:=by
 unfold F4
 cases h:mw row.length fun j=> !(row.getD j 0==n) with
 |true=>
  rw[we] at h
  simp only[zl70,zl44,false_iff,not_exists,not_and]
  intro j hj e
  have:=h j hj
  simp only[e,zl95,zl70,zl44] at this
 |false=>
  simp only[zl98,true_iff]
  by_cases e:∃j,j<row.length∧row.getD j 0=n
  ·exact e
  ·exfalso
   have:mw row.length (fun j=> !(row.getD j 0==n))=true:=by
    rw[we];intro j hj
    simp only[zl63,zl89,ne_eq]
    intro e2;exact e ⟨j,hj,e2⟩
   rw[h] at this;cases this
def agZ (row:List Int)(n:Int)(h:row.length≤4611686018427387904):Ei (row,n)=some (F4 row n,()):=by
 have hl:Comes LL (((0:Int),n,row),()) (if(mw row.length fun j=> !(row.getD j 0==n))=true then .inr ((),()) else .inl (true,())):=by
  refine Cr (fun i=>(((i:Int),n,row),())) ?_ ?_ ?_
  ·intro i hi _ hp
   have hi':decide ((i:Int)<(row.length:Int))=true:=by simpa using hi
   have h0:decide ((0:Int)≤(i:Int))=true:=by simp
   have hp':(row.getD i 0==n)=false:=by simpa using hp
   simp only[LL,hi',h0,zl94,hp',A5 (i:=i) (by omega),zU,dW,pO,zl92]
  ·intro i hi _ hp
   have hi':decide ((i:Int)<(row.length:Int))=true:=by simpa using hi
   have h0:decide ((0:Int)≤(i:Int))=true:=by simp
   have hp':(row.getD i 0==n)=true:=by simpa using hp
   simp only[LL,hi',h0,zl94,hp',zU,dW,zl92]
  ·simp[LL]
 cases hp:(mw row.length fun j=> !(row.getD j 0==n)) with
 |true=>
  rw[hp,bQ rfl] at hl
  simp only[Ei,cb hl,cv hl,F4,hp,dW,zl70,ld]
 |false=>
  rw[hp,cT (by simp)] at hl
  simp only[Ei,cb hl,cv hl,F4,hp,dW,zl98,ld]
def KV (s:fk.D)(i k:Nat):Bool:=decide (k=i) || !F4 (fN s k).1 (lq s i)
def cross (s:fk.D):Bool:=mw s.2.2.1.length fun i=>mw s.2.2.1.length (KV s i)
def agY (s:fk.D)(hs:Fk s)(i:Nat)(hi:i<s.2.2.1.length)(hne:(fN s i).1.length≠0) :
  Comes LW (((0:Int),(i:Int),()),s) (if mw s.2.2.1.length (KV s i)=true then .inr (((),(i:Int)),s) else .inl (false,())):=by
 have CG:∀k,k<s.2.2.1.length→LW (((k:Int),(i:Int),()),s)=bif KV s i k then some (.inl ((((k+1:Nat):Int),(i:Int),()),s)) else some (.inr (.inl (false,()))):=by
  intro k hk
  have hr:=agZ (fN s k).1 (lq s i) (hs.2 _ (SA s k hk))
  have hr':zog Ei ((fN s k).1,lq s i)=(F4 (fN s k).1 (lq s i),()):=by simp only[zog,hr]
  have eA:List.getD s.2.2.1 i ([],[],())=fN s i:=rfl
  have eB:List.getD s.2.2.1 k ([],[],())=fN s k:=rfl
  have f1:List.getD (fN s i).1 0 0=lq s i:=rfl
  have hi':decide ((i:Int)<(s.2.2.1.length:Int))=true:=by simpa using hi
  have hk':decide ((k:Int)<(s.2.2.1.length:Int))=true:=by simpa using hk
  have h0:decide ((0:Int)≤(i:Int))=true:=by simp
  have h1:decide ((0:Int)≤(k:Int))=true:=by simp
  have h2:decide ((0:Int)<((fN s i).1.length:Int))=true:=by simp;omega
  have w:=A5 (i:=k) (by have:=hs.1;omega)
  have d1:((k:Int) != (i:Int)) = !decide (k=i):=by
   by_cases e:k=i
   ·subst e;simp
   ·have:(k:Int)≠i:=by omega
    simp[e,this]
  cases hA:decide (k=i)<;>cases hB:F4 (fN s k).1 (lq s i)<;>
   simp only[LW,hi',hk',h0,h1,h2,zl94,Int.toNat_zero,eA,eB,f1,hr,hr',d1,hA,hB,w,KV,zU,qu,dW,pO,zl70,zl98,zl99,Bool.or_false,zl92,Bool.or_self,zl73,Int.le_refl]
 refine Cr (fun k=>(((k:Int),(i:Int),()),s)) ?_ ?_ ?_
 ·intro k hk _ h
  rw[CG k hk,h];rfl
 ·intro k hk _ h
  rw[CG k hk,h];rfl
 ·simp[LW,ld]
def apA (s:fk.D)(hs:Fk s)(hne:∀i,i<s.2.2.1.length→(fN s i).1.length≠0) :
  Comes LV (((0:Int),()),s) (if cross s=true then .inr ((),()) else .inl (false,())):=by
 refine Cr (fun i=>(((i:Int),()),s)) ?_ ?_ ?_
 ·intro i hi _ h
  have hl:=agY s hs i hi (hne i hi)
  rw[h,bQ rfl] at hl
  have hi':decide ((i:Int)<(s.2.2.1.length:Int))=true:=by simpa using hi
  simp only[LV,hi',cb hl,cv hl,dW,ld]
  dsimp only[sumC]
  rw[A5 (i:=i) (by have:=hs.1;omega)]
 ·intro i hi _ h
  have hl:=agY s hs i hi (hne i hi)
  rw[h,cT (by simp)] at hl
  have hi':decide ((i:Int)<(s.2.2.1.length:Int))=true:=by simpa using hi
  simp only[LV,hi',cb hl,cv hl,dW,ld]
 ·simp[LV,ld]
def C0 (s:fk.D):Bool:=decide (1≤s.1∧s.1≤24)&&decide (1≤s.2.1∧s.2.1≤16)&&mw s.2.2.1.length (z4 s)&&cross s
def WO {s:fk.D}(h:mw s.2.2.1.length (z4 s)=true)(i:Nat)(hi:i<s.2.2.1.length):(fN s i).1.length≠0:=by
 have:=we.1 h i hi
 simp only[z4,bB,mS] at this
 exact this.1.1.2
def apy (s:fk.D)(hs:Fk s):FN s=some (C0 s,()):=by
 by_cases a1:1≤s.1∧s.1≤24
 case neg=>simp[FN,zog,AD,zU,qu,a1,C0]
 by_cases a2:1≤s.2.1∧s.2.1≤16
 case neg=>simp[FN,zog,AD,zU,qu,a1,a2,C0]
 have hl:=apz s hs a1
 cases h1:mw s.2.2.1.length (z4 s) with
 |false=>
  rw[h1,cT (by simp)] at hl
  simp[FN,zog,AD,zU,qu,a1,a2,C0,cb hl,cv hl,h1]
 |true=>
  rw[h1,bQ rfl] at hl
  have hl2:=apA s hs (WO h1)
  cases h2:cross s with
  |false=>
   rw[h2,cT (by simp)] at hl2
   simp[FN,zog,AD,zU,qu,a1,a2,C0,cb hl,cv hl,h1,h2]
   dsimp only[sumC]
   simp only[cb hl2,cv hl2,dW]
  |true=>
   rw[h2,bQ rfl] at hl2
   simp[FN,zog,AD,zU,qu,a1,a2,C0,cb hl,cv hl,h1,h2]
   dsimp only[sumC]
   simp only[cb hl2,cv hl2,dW]
def Yt {row:List Int}{count:Int}(h:Cw row count=true)(x:Int)(hx:x∈row):0≤x∧x<24:=by
 simp only[Cw,bB,mS] at h
 obtain⟨i,hi,e⟩:=List.mem_iff_getElem.1 hx
 have:=we.1 h.1 i hi
 simp only[CH,bB,mS,getD_eq _ _ _ hi,e] at this
 omega
def B9 (s:fk.D)(i:Nat):List Int:=(List.range i).map (lq s)
def aiR (s:fk.D)(i:Nat):B9 s (i+1)=B9 s i ++ [lq s i]:=by simp[B9,List.range_succ]
def SO {s:fk.D}{i:Nat}(h:z4 s i=true):0≤lq s i∧lq s i<24:=by
 simp only[z4,bB,mS] at h
 have hp:0<(fN s i).1.length:=by have:=h.1.1.2;omega
 refine Yt h.1.1.1 _ ?_
 rw[lq,getD_eq _ _ _ hp];simp
def aa9 {s:fk.D}{i:Nat}(h:∀j,j<i→z4 s j=true):∀x∈B9 s i,x<24:=by
 intro x hx
 simp only[B9,gG,List.mem_range] at hx
 obtain⟨j,hj,rfl⟩:=hx
 exact(SO (h j hj)).2
def ai3 (s:fk.D)(hs:Fk s)(h1:1≤s.1∧s.1≤24) :
  Comes Ht (((0:Int),(0:Int),(),s.2.2.1,(s.2.2.1.length:Int)),s) (if mw s.2.2.1.length (z4 s)=true then .inr ((((w9 (B9 s s.2.2.1.length):Nat):Int),()),s) else .inl (false,())):=by
 have CG:∀i,i<s.2.2.1.length→(∀j,j<i→z4 s j=true)→Ht (((i:Int),((w9 (B9 s i):Nat):Int),(),s.2.2.1,(s.2.2.1.length:Int)),s)=bif z4 s i then some (.inl ((((i+1:Nat):Int),((w9 (B9 s (i+1)):Nat):Int),(),s.2.2.1,(s.2.2.1.length:Int)),s)) else some (.inr (.inl (false,()))):=by
  intro i hi hp
  have hm:=SA s i hi
  have hr:=ai1 (fN s i).1 s.1 (hs.2 _ hm) (by omega) (by omega)
  have hr':zog Hj ((fN s i).1,s.1)=(Cw (fN s i).1 s.1,()):=by simp only[zog,hr]
  have eA:List.getD s.2.2.1 i ([],[],())=fN s i:=rfl
  have hi':decide ((i:Int)<(s.2.2.1.length:Int))=true:=by simpa using hi
  have h0:decide ((0:Int)≤(i:Int))=true:=by simp
  have w:=A5 (i:=i) (by have:=hs.1;omega)
  have d1:(((fN s i).1.length:Int)==0) = !decide ((fN s i).1.length≠0):=by
   by_cases e:(fN s i).1.length=0<;>simp[e]
  have d2:(((fN s i).2.1.length:Int) != s.2.1) = !decide (((fN s i).2.1.length:Int)=s.2.1):=rfl
  have d3:decide ((0:Int)<((fN s i).1.length:Int))=decide ((fN s i).1.length≠0):=by
   by_cases e:(fN s i).1.length=0<;>simp[e];omega
  have f1:List.getD (fN s i).1 0 0=lq s i:=rfl
  have mk:z4 s i=true→pZ .or .u32 ((w9 (B9 s i):Nat):Int) (IntKind.wrap .u32 ((1:Int)*(2:Int) ^ Min.min (Int.toNat (lq s i)) (IntKind.bits .u32)))=((w9 (B9 s (i+1)):Nat):Int):=by
   intro h
   have:=SO h
   rw[shl32 this.1 this.2,or32 (Pn _ (aa9 hp)) (pow24 this.2),aiR,acY]
  have mk0:z4 s i=true→decide (0≤lq s i)=true:=fun h=>zl86 (SO h).1
  rcases zl83 i with hz|hz
  ·subst hz
   have g0:decide (((0:Nat):Int)>0)=false:=by decide
   cases hA:Cw (fN s 0).1 s.1<;>cases hB:decide ((fN s 0).1.length≠0)<;>cases hC:decide (((fN s 0).2.1.length:Int)=s.2.1)
   case true.true.true=>
    have hE:z4 s 0=true:=by simp only[z4,hA,hB,hC,zl73,zl76,zl92]
    simp only[Ht,hi',h0,zl94,Int.toNat_zero,eA,f1,hr',hr,d1,d2,d3,g0,hA,hB,hC,w,mk hE,mk0 hE,hE,zU,qu,dW,pO,zl70,zl98,Bool.and_true,zl76,zl99,zl92]
   all_goals
    simp only[Ht,hi',h0,zl94,eA,hr',hr,d1,d2,d3,g0,hA,hB,hC,w,z4,zU,qu,dW,pO,zl70,zl98,Bool.and_true,zl74,zl76,zl99,zl92,zl73]
  ·have g0:decide ((i:Int)>0)=true:=by simpa using hz
   have gz:decide (i=0)=false:=by simp;omega
   have w2:=ahf (i:=i) (by have:=hs.1;omega) hz
   have eB:List.getD s.2.2.1 (i-1) ([],[],())=fN s (i-1):=rfl
   have hq:=hp (i-1) (by omega)
   simp only[z4,bB,mS] at hq
   have q1:decide ((0:Int)<((fN s (i-1)).1.length:Int))=true:=by have:=hq.1.1.2;simp;omega
   have q2:decide (((i-1:Nat):Int)<(s.2.2.1.length:Int))=true:=by simp;omega
   have q3:decide ((0:Int)≤((i-1:Nat):Int))=true:=by simp
   have f2:List.getD (fN s (i-1)).1 0 0=lq s (i-1):=rfl
   have d4:decide (lq s (i-1)≥lq s i) = !decide (lq s (i-1)<lq s i):=by
    by_cases e:lq s (i-1)<lq s i
    ·have:¬lq s i≤lq s (i-1):=by omega
     simp[e,this]
    ·have:lq s i≤lq s (i-1):=by omega
     simp[e,this]
   cases hA:Cw (fN s i).1 s.1<;>cases hB:decide ((fN s i).1.length≠0)<;>cases hC:decide (((fN s i).2.1.length:Int)=s.2.1)<;>cases hD:decide (lq s (i-1)<lq s i)
   case true.true.true.true=>
    have hE:z4 s i=true:=by simp only[z4,hA,hB,hC,hD,zl99,zl92]
    simp only[Ht,hi',h0,zl94,Int.toNat_zero,eA,eB,f1,f2,hr',hr,d1,d2,d3,d4,g0,hA,hB,hC,hD,w,w2,q1,q2,q3,mk hE,mk0 hE,hE,zU,qu,dW,pO,zl70,zl98,zl99,zl92,zl73,Int.le_refl]
   all_goals
    simp only[Ht,hi',h0,zl94,Int.toNat_zero,eA,eB,f1,f2,hr',hr,d1,d2,d3,d4,g0,gz,hA,hB,hC,hD,w,w2,q1,q2,q3,z4,zU,qu,dW,pO,zl70,zl98,Bool.and_true,zl74,zl99,Bool.or_false,zl92,zl73,Int.le_refl]
 have e0:((w9 (B9 s 0):Nat):Int)=0:=rfl
 refine e0▸Cr (fun i=>(((i:Int),((w9 (B9 s i):Nat):Int),(),s.2.2.1,(s.2.2.1.length:Int)),s)) ?_ ?_ ?_
 ·intro i hi hp h
  rw[CG i hi hp,h];rfl
 ·intro i hi hp h
  rw[CG i hi hp,h];rfl
 ·simp[Ht,ld]
def DP (s:fk.D)(k:Nat):List Int:=(fN s k).1.drop 1
def Gg (s:fk.D)(k:Nat):Bool:=decide (w9 (DP s k) &&& w9 (B9 s s.2.2.1.length)=0)
def ai4 (s:fk.D)(hs:Fk s)(ha:mw s.2.2.1.length (z4 s)=true) :
  Comes LU (((0:Int),((w9 (B9 s s.2.2.1.length):Nat):Int),s.2.2.1,(s.2.2.1.length:Int)),()) (if mw s.2.2.1.length (Gg s)=true then .inr ((),()) else .inl (false,())):=by
 have CG:∀k,k<s.2.2.1.length→LU (((k:Int),((w9 (B9 s s.2.2.1.length):Nat):Int),s.2.2.1,(s.2.2.1.length:Int)),())=bif Gg s k then some (.inl ((((k+1:Nat):Int),((w9 (B9 s s.2.2.1.length):Nat):Int),s.2.2.1,(s.2.2.1.length:Int)),())) else some (.inr (.inl (false,()))):=by
  intro k hk
  have hm:=SA s k hk
  have hl:=hs.2 _ hm
  have hq:=we.1 ha k hk
  simp only[z4,bB,mS] at hq
  have hne:=hq.1.1.2
  have hmem:∀x∈DP s k,0≤x∧x<24:=fun x hx=>Yt hq.1.1.1 x (List.mem_of_mem_drop hx)
  have hr:=ai6 (DP s k) (by rw[DP,zl4];omega) hmem
  have hr':zog IK (DP s k)=(((w9 (DP s k):Nat):Int),()):=by simp only[zog,hr]
  have eA:List.getD s.2.2.1 k ([],[],())=fN s k:=rfl
  have et:List.take (Int.toNat (((fN s k).1.length:Int)-1)) (List.drop (Int.toNat 1) (fN s k).1)=DP s k:=by
   rw[DP]
   exact zl57 (by simp)
  have hk':decide ((k:Int)<(s.2.2.1.length:Int))=true:=by simpa using hk
  have h0:decide ((0:Int)≤(k:Int))=true:=by simp
  have h1:decide ((1:Int)≤((fN s k).1.length:Int))=true:=by simp;omega
  have w:=A5 (i:=k) (by have:=hs.1;omega)
  have ea:=and32 (Pn _ fun x hx=>(hmem x hx).2) (Pn _ (aa9 (we.1 ha)))
  have en:(((w9 (DP s k) &&& w9 (B9 s s.2.2.1.length):Nat):Int) != 0) = !Gg s k:=by
   unfold Gg
   by_cases e:w9 (DP s k) &&& w9 (B9 s s.2.2.1.length)=0
   ·rw[e];rfl
   ·rw[zl90 e,zl98,bne_iff_ne];omega
  cases hc:Gg s k<;>
   simp only[LU,hk',h0,h1,zl94,eA,et,hr,hr',ea,en,hc,w,zU,qu,dW,pO,zl70,zl98,zl92,zl73,Int.le_refl]
 refine Cr (fun k=>(((k:Int),((w9 (B9 s s.2.2.1.length):Nat):Int),s.2.2.1,(s.2.2.1.length:Int)),())) ?_ ?_ ?_
 ·intro k hk _ h
  rw[CG k hk,h];rfl
 ·intro k hk _ h
  rw[CG k hk,h];rfl
 ·simp[LU,ld]
def AM {f:Nat→Int}{n:Nat}(h:∀i,0<i→i<n→f (i-1)<f i):∀j i,i<j→j<n→f i<f j:=by
 intro j
 induction j with
 |zero=>intro i hi;omega
 |succ j ih=>
  intro i hi hj
  have h1:f j<f (j+1):=h (j+1) (by omega) hj
  by_cases e:i=j
  ·subst e;exact h1
  ·have:=ih i (by omega) (by omega)
   omega
def aoW {row:List Int}{count:Int}(h:Cw row count=true)(m:Nat)(hm:0<m)(hl:m<row.length):row.getD 0 0<row.getD m 0:=by
 simp only[Cw,bB] at h
 refine AM (f:=fun i=>row.getD i 0) (n:=row.length) ?_ m 0 hm hl
 intro i h0 hi
 have:=we.1 h.1 i hi
 simp only[CH,bB,rz,mS] at this
 exact this.2.resolve_left (by omega)
def OU {s:fk.D}(h:mw s.2.2.1.length (z4 s)=true):∀j i,i<j→j<s.2.2.1.length→lq s i<lq s j:=by
 refine AM ?_
 intro i h0 hi
 have:=we.1 h i hi
 simp only[z4,bB,rz,mS] at this
 exact this.2.resolve_left (by omega)
def Yu {s:fk.D}(h:mw s.2.2.1.length (z4 s)=true){k:Nat}(hk:k<s.2.2.1.length):Cw (fN s k).1 s.1=true:=by
 have:=we.1 h k hk
 simp only[z4,bB] at this
 exact this.1.1.1
def XR {s:fk.D}{k:Nat}{x:Int}:x∈DP s k↔∃m,0<m∧m<(fN s k).1.length∧(fN s k).1.getD m 0=x:=by
 rw[DP,List.mem_iff_getElem]
 constructor
 ·rintro⟨i,hi,e⟩
  rw[zl4] at hi
  refine⟨i+1,by omega,by omega,?_⟩
  rw[getD_eq _ _ _ (by omega:i+1<(fN s k).1.length)]
  rw[List.getElem_drop] at e
  simpa[Nat.add_comm] using e
 ·rintro⟨m,h0,hm,e⟩
  refine⟨m-1,by rw[zl4];omega,?_⟩
  rw[List.getElem_drop]
  rw[getD_eq _ _ _ hm] at e
  have:1+(m-1)=m:=by omega
  simp only[this]
  exact e
def acW {s:fk.D}{n:Nat}{x:Int}:x∈B9 s n↔∃i,i<n∧lq s i=x:=by simp[B9]
def XQ {s:fk.D}(ha:mw s.2.2.1.length (z4 s)=true){k:Nat}(hk:k<s.2.2.1.length) :
  Gg s k=true↔∀i,i<s.2.2.1.length→lq s i∉DP s k:=by
 have hr:=Yu ha hk
 unfold Gg
 rw[mS]
 constructor
 ·intro h i hi hm
  have h1:(w9 (DP s k)).testBit (lq s i).toNat=true:=by
   rw[Pp,List.any_eq_true];exact⟨_,hm,by simp⟩
  have h2:(w9 (B9 s s.2.2.1.length)).testBit (lq s i).toNat=true:=by
   rw[Pp,List.any_eq_true];exact⟨_,acW.2 ⟨i,hi,rfl⟩,by simp⟩
  have:(w9 (DP s k) &&& w9 (B9 s s.2.2.1.length)).testBit (lq s i).toNat=true:=by rw[Nat.testBit_and,h1,h2];rfl
  rw[h,Nat.zero_testBit] at this;cases this
 ·intro h
  apply Nat.eq_of_testBit_eq
  intro j
  rw[Nat.testBit_and,Nat.zero_testBit,Pp,Pp,zl81]
  cases h1:(DP s k).any fun x=>decide (x.toNat=j) with
  |false=>exact .inl rfl
  |true=>
   refine .inr ?_
   cases h2:(B9 s s.2.2.1.length).any fun x=>decide (x.toNat=j) with
   |false=>rfl
   |true=>
    exfalso
    obtain⟨x,hx,ex⟩:=List.any_eq_true.1 h1
    obtain⟨y,hy,ey⟩:=List.any_eq_true.1 h2
    simp only[mS] at ex ey
    obtain⟨i,hi,rfl⟩:=acW.1 hy
    have b1:=SO (we.1 ha i hi)
    have b2:=Yt hr x (List.mem_of_mem_drop hx)
    have:x=lq s i:=by omega
    subst this
    exact h i hi hx
def aal {s:fk.D}(ha:mw s.2.2.1.length (z4 s)=true):mw s.2.2.1.length (Gg s)=cross s:=by
 have hne:=WO ha
 have key:mw s.2.2.1.length (Gg s)=true↔cross s=true:=by
  rw[we,cross,we]
  constructor
  ·intro h i hi
   rw[we]
   intro k hk
   simp only[KV,rz,mS]
   by_cases e:k=i
   ·exact .inl e
   ·refine .inr ?_
    cases hh:F4 (fN s k).1 (lq s i) with
    |false=>rfl
    |true=>
     exfalso
     obtain⟨j,hj,ej⟩:=(Xb _ _).1 hh
     rcases zl83 j with hz|hz
     ·subst hz
      have e2:lq s k=lq s i:=ej
      rcases Nat.lt_or_gt_of_ne e with hlt|hlt
      ·have:=OU ha i k hlt hi;omega
      ·have:=OU ha k i hlt hk;omega
     ·exact(XQ ha hk).1 (h k hk) i hi (XR.2 ⟨j,hz,hj,ej⟩)
  ·intro h k hk
   rw[XQ ha hk]
   intro i hi hm
   obtain⟨m,h0,hml,e⟩:=XR.1 hm
   have:=we.1 (h i hi) k hk
   simp only[KV,rz,mS] at this
   rcases this with hki|hn
   ·subst hki
    have:=aoW (Yu ha hk) m h0 hml
    rw[e] at this
    unfold lq at this
    omega
   ·have:F4 (fN s k).1 (lq s i)=true:=(Xb _ _).2 ⟨m,hml,e⟩
    rw[this] at hn;cases hn
 cases h1:mw s.2.2.1.length (Gg s)<;>cases h2:cross s
 ·rfl
 ·rw[key.2 h2] at h1;cases h1
 ·rw[key.1 h1] at h2;cases h2
 ·rfl
def ai2 (s:fk.D)(hs:Fk s):FJ s=some (C0 s,()):=by
 by_cases a1:1≤s.1∧s.1≤24
 case neg=>simp[FJ,zog,Bh,zU,qu,a1,C0]
 by_cases a2:1≤s.2.1∧s.2.1≤16
 case neg=>simp[FJ,zog,Bh,zU,qu,a1,a2,C0]
 have hl:=ai3 s hs a1
 cases h1:mw s.2.2.1.length (z4 s) with
 |false=>
  rw[h1,cT (by simp)] at hl
  simp[FJ,zog,Bh,zU,qu,a1,a2,C0,cb hl,cv hl,h1]
 |true=>
  rw[h1,bQ rfl] at hl
  have hl2:=ai4 s hs h1
  rw[aal h1] at hl2
  cases h2:cross s with
  |false=>
   rw[h2,cT (by simp)] at hl2
   simp[FJ,zog,Bh,zU,qu,a1,a2,C0,cb hl,cv hl,h1,h2]
   dsimp only[sumC]
   simp only[cb hl2,cv hl2,dW]
  |true=>
   rw[h2,bQ rfl] at hl2
   simp[FJ,zog,Bh,zU,qu,a1,a2,C0,cb hl,cv hl,h1,h2]
   dsimp only[sumC]
   simp only[cb hl2,cv hl2,dW]
def scan (p:Nat→Bool):Nat→Nat→Nat
 |0,k=>k
 |d+1,k=>if p k=true then scan p d (k+1) else k
def Ub (p:Nat→Bool):∀d k,k≤scan p d k∧scan p d k≤k+d∧(∀j,k≤j→j<scan p d k→p j=true)∧(scan p d k<k+d→p (scan p d k)=false)
 |0,k=>⟨bA _,bA _,fun j h1 h2=>by simp only[scan] at h2;omega,fun h=>by simp only[scan] at h;omega⟩
 |d+1,k=>by
  unfold scan
  by_cases h:p k=true
  ·rw[bQ h]
   obtain⟨a,b,c,e⟩:=Ub p d (k+1)
   refine⟨by omega,by omega,fun j h1 h2=>?_,fun hh=>e (by omega)⟩
   by_cases ej:j=k
   ·subst ej;exact h
   ·exact c j (by omega) h2
  ·rw[cT h]
   refine⟨bA _,by omega,fun j h1 h2=>by omega,fun _=>by simpa using h⟩
def Em {X Y:Type}{r:X→Option (X⊕Y)}(st:Nat→X){n:Nat}(p:Nat→Bool)(yf:Nat→Y)(hs:∀i,i<n→p i=true→r (st i)=some (.inl (st (i+1))))
  (hf:∀i,i<n→p i=false→r (st i)=some (.inr (yf i))) (he:r (st n)=some (.inr (yf n))):Comes r (st 0) (yf (scan p n 0)):=by
 have main:∀d k,k+d=n→Comes r (st k) (yf (scan p d k)):=by
  intro d
  induction d with
  |zero=>intro k hk;have:k=n:=by omega
         subst this;exact .out he
  |succ d ih=>
   intro k hk
   unfold scan
   cases hp:p k with
   |true=>rw[bQ rfl];exact .again (hs k (by omega) hp) (ih (k+1) (by omega))
   |false=>rw[cT (by simp)];exact .out (hf k (by omega) hp)
 exact main n 0 (by omega)
def Es (s:fk.D)(n:Int)(i:Nat):Bool:=decide ((fN s i).1.length=1)&&decide (lq s i=n)
def Cl (s:fk.D)(n:Int):Nat:=scan (fun i=> !Es s n i) s.2.2.1.length 0
def DD (s:fk.D)(n:Int):List UInt8×Bool:=if Cl s n<s.2.2.1.length then((fN s (Cl s n)).2.1,true) else([],false)
def aa4 {s:fk.D}{n:Int}(h:Cl s n<s.2.2.1.length):Es s n (Cl s n)=true:=by
 have:=(Ub (fun i=> !Es s n i) s.2.2.1.length 0).2.2.2 (by rw[lA];exact h)
 simpa[Cl] using this
def aiM {s:fk.D}{n:Int}{i:Nat}(_hi:i<s.2.2.1.length)(h:Es s n i=true):Cl s n≤i:=by
 rcases Nat.lt_or_ge i (Cl s n) with hl|hl
 ·have:=(Ub (fun i=> !Es s n i) s.2.2.1.length 0).2.2.1 i (lB _) hl
  simp[h] at this
 ·exact hl
def len1 (l:List Int):((l.length:Int)==1)=decide (l.length=1):=by
 by_cases e:l.length=1
 ·rw[e];rfl
 ·have:¬(l.length:Int)=1:=by omega
  rw[zl90 e];simpa using this
def abb (s:fk.D)(hs:Fk s)(n:Int):q22 (s,n)=some (DD s n,()):=by
 have CG:∀i,i<s.2.2.1.length→LQ (((i:Int),n,s.2.2.1,(s.2.2.1.length:Int)),())=bif !Es s n i then some (.inl ((((i+1:Nat):Int),n,s.2.2.1,(s.2.2.1.length:Int)),())) else some (.inr (.inl (((fN s i).2.1,true),()))):=by
  intro i hi
  have eA:List.getD s.2.2.1 i ([],[],())=fN s i:=rfl
  have f1:List.getD (fN s i).1 0 0=lq s i:=rfl
  have hi':decide ((i:Int)<(s.2.2.1.length:Int))=true:=by simpa using hi
  have h0:decide ((0:Int)≤(i:Int))=true:=by simp
  have w:=A5 (i:=i) (by have:=hs.1;omega)
  have d1:=len1 (fN s i).1
  have d2:(lq s i==n)=decide (lq s i=n):=rfl
  have d3:(!decide ((fN s i).1.length=1) || decide ((0:Int)<((fN s i).1.length:Int)))=true:=by
   by_cases e:(fN s i).1.length=1
   ·simp[e]
   ·simp[e]
  cases hA:decide ((fN s i).1.length=1)<;>cases hB:decide (lq s i=n)<;>simp only[hA,zl70,zl98,zl76,zl71] at d3<;>
   simp only[LQ,hi',h0,zl94,Int.toNat_zero,eA,f1,d1,d2,hA,hB,d3,w,Es,zU,dW,pO,zl70,zl98,Bool.and_true,zl74,zl76,zl99,zl92,zl73,Int.le_refl]
 have hl:Comes LQ (((0:Int),n,s.2.2.1,(s.2.2.1.length:Int)),()) (if Cl s n<s.2.2.1.length then .inl (((fN s (Cl s n)).2.1,true),()) else .inr ((),())):=by
  refine Em (fun i=>(((i:Int),n,s.2.2.1,(s.2.2.1.length:Int)),())) (fun i=> !Es s n i) (fun i=>if i<s.2.2.1.length then(.inl (((fN s i).2.1,true),()):((List UInt8×Bool)×Unit)⊕(Unit×Unit)) else .inr ((),())) ?_ ?_ ?_
  ·intro i hi h
   simp only[CG i hi];rw[h];rfl
  ·intro i hi h
   simp only[CG i hi];rw[h,bQ hi];rfl
  ·simp[LQ]
 by_cases h:Cl s n<s.2.2.1.length
 ·rw[bQ h] at hl
  simp only[q22,cb hl,cv hl,DD,bQ h,dW,ld]
 ·rw[cT h] at hl
  simp only[q22,cb hl,cv hl,DD,cT h,dW,ld]
def pre (s:fk.D):Nat:=scan (fun n=>(DD s n).2) s.1.toNat 0
def ai8 (s:fk.D)(hs:Fk s)(h1:1≤s.1∧s.1≤24):Wh.q2 s=some ((pre s:Int),()):=by
 have hl:Comes LR (((0:Int),()),s) ((pre s:Int),()):=by
  refine Em (fun n=>(((n:Int),()),s)) (n:=s.1.toNat) (fun n=>(DD s n).2) (fun n=>((n:Int),())) ?_ ?_ ?_
  ·intro i hi h
   have hi':decide ((i:Int)<s.1)=true:=by simp;omega
   have w:=A5 (i:=i) (by omega)
   simp only[LR,hi',zog,abb s hs,h,w,zU,qu,dW,pO,zl70]
  ·intro i hi h
   have hi':decide ((i:Int)<s.1)=true:=by simp;omega
   simp only[LR,hi',zog,abb s hs,h,zU,qu,dW,zl98]
  ·have hi':decide (((s.1.toNat:Nat):Int)<s.1)=false:=by simp;omega
   simp only[LR,hi',pO,ld]
 simp only[Wh.q2,cb hl,cv hl,dW,ld]
def ZW {f:Nat→Int}{n:Nat}(h:∀i,0<i→i<n→f (i-1)<f i):∀j,j<n→∀i,i≤j→f i+((j:Int)-i)≤f j:=by
 intro j
 induction j with
 |zero=>intro _ i hi;have:i=0:=by omega
        subst this;omega
 |succ j ih=>
  intro hj i hi
  by_cases e:i=j+1
  ·subst e;omega
  ·have h1:f j<f (j+1):=h (j+1) (by omega) hj
   have:=ih (by omega) i (by omega)
   omega
def YA {s:fk.D}(h:C0 s=true):(1≤s.1∧s.1≤24)∧(1≤s.2.1∧s.2.1≤16)∧mw s.2.2.1.length (z4 s)=true∧cross s=true:=by
 simp only[C0,bB,mS] at h
 exact⟨h.1.1.1,h.1.1.2,h.1.2,h.2⟩
def aa8 {s:fk.D}(ha:mw s.2.2.1.length (z4 s)=true){k m:Nat}(hk:k<s.2.2.1.length)(hm:m<(fN s k).1.length):0≤(fN s k).1.getD m 0∧(fN s k).1.getD m 0≤s.1-1:=by
 have:=Yu ha hk
 simp only[Cw,bB] at this
 have:=we.1 this.1 m hm
 simp only[CH,bB,mS] at this
 exact this.1
def aiQ {s:fk.D}(h:mw s.2.2.1.length (z4 s)=true):∀i,0<i→i<s.2.2.1.length→lq s (i-1)<lq s i:=
 fun i h0 hi=>OU h i (i-1) (by omega) hi
def ahW {s:fk.D}(h:C0 s=true):((pre s:Nat):Int)=s.1↔(s.2.2.1.length:Int)=s.1:=by
 obtain⟨h1,_,ha,hx⟩:=YA h
 have hne:=WO ha
 have hb:∀i,i<s.2.2.1.length→0≤lq s i∧lq s i≤s.1-1:=fun i hi=>aa8 ha hi (by have:=hne i hi;omega)
 have sp:=Ub (fun n=>(DD s n).2) s.1.toNat 0
 have sp':pre s≤s.1.toNat∧(∀j,j<pre s→(DD s j).2=true)∧(pre s<s.1.toNat→(DD s (pre s)).2=false):=
  ⟨by have:=sp.2.1;unfold pre;omega,fun j hj=>sp.2.2.1 j (lB _) hj,fun hh=>sp.2.2.2 (by unfold pre at hh;omega)⟩
 have gap:=ZW (aiQ ha)
 have hle:(s.2.2.1.length:Int)≤s.1:=by
  rcases zl83 s.2.2.1.length with hz|hz
  ·omega
  ·have a:=gap (s.2.2.1.length-1) (by omega) 0 (lB _)
   have b:=hb (s.2.2.1.length-1) (by omega)
   have c:=hb 0 (by omega)
   omega
 constructor
 ·intro hp
  have hin:∀n:Nat,n<s.1.toNat→Cl s n<s.2.2.1.length∧lq s (Cl s n)=n:=by
   intro n hn
   have:=sp'.2.1 n (by omega)
   unfold DD at this
   by_cases hi:Cl s n<s.2.2.1.length
   ·have dJ:=aa4 hi
    simp only[Es,bB,mS] at dJ
    exact⟨hi,dJ.2⟩
   ·rw[cT hi] at this;cases this
  have g2:=ZW (f:=fun n=>(Cl s n:Int)) (n:=s.1.toNat) (by
   intro i h0 hi
   have a:=hin i hi
   have b:=hin (i-1) (by omega)
   show((Cl s ((i-1:Nat):Int):Nat):Int)<((Cl s (i:Int):Nat):Int)
   rcases Nat.lt_trichotomy (Cl s ((i-1:Nat):Int)) (Cl s (i:Int)) with hlt|heq|hgt
   ·omega
   ·rw[heq] at b;omega
   ·have:=OU ha _ _ hgt b.1;omega)
  have c:=g2 (s.1.toNat-1) (by omega) 0 (lB _)
  have d:=(hin (s.1.toNat-1) (by omega)).1
  omega
 ·intro hl
  have hd:∀i,i<s.2.2.1.length→lq s i=i:=by
   intro i hi
   have a:=gap i hi 0 (lB _)
   have b:=gap (s.2.2.1.length-1) (by omega) i (by omega)
   have c:=hb 0 (by omega)
   have d:=hb (s.2.2.1.length-1) (by omega)
   omega
  have hm:mw s.2.2.1.length (Gg s)=true:=by rw[aal ha];exact hx
  have hone:∀i,i<s.2.2.1.length→(fN s i).1.length=1:=by
   intro i hi
   by_cases e:(fN s i).1.length=1
   ·exact e
   ·exfalso
    have h2:1<(fN s i).1.length:=by have:=hne i hi;omega
    have hr:=aa8 ha hi h2
    have ht:(fN s i).1.getD 1 0∈DP s i:=XR.2 ⟨1,by omega,h2,rfl⟩
    have hlt:((fN s i).1.getD 1 0).toNat<s.2.2.1.length:=by omega
    have:=(XQ ha hi).1 (we.1 hm i hi) _ hlt
    rw[hd _ hlt] at this
    have e2:((((fN s i).1.getD 1 0).toNat:Nat):Int)=(fN s i).1.getD 1 0:=by omega
    rw[e2] at this
    exact this ht
  have mG:∀n:Nat,n<s.2.2.1.length→(DD s n).2=true:=by
   intro n hn
   have:Cl s n≤n:=aiM hn (by simp only[Es,hone n hn,hd n hn,zl73,zl92])
   unfold DD
   rw[bQ (by omega)]
  by_cases hlt:pre s<s.1.toNat
  ·have a:=sp'.2.2 hlt
   rw[mG (pre s) (by omega)] at a
   cases a
  ·have:=sp'.1
   omega
def HT (a b:Int):(a==b)=decide (a=b):=rfl
def DR (g:r5.D):Bool:=Bp g.1&&C0 g.2.1&&decide (g.2.1.1=cnt g.1)&&decide (g.2.1.2.1=g.1.2.1)
def TC {p:gT.D}(h:Bp p=true):(1≤p.1∧p.1≤300)∧(1≤p.2.1∧p.2.1≤16):=by
 simp only[Bp,Cv,bB,mS] at h
 exact⟨h.1.1.1.1.1.1,h.1.1.1.1.1.2⟩
def YE (g:r5.D)(hg:Jj g):FC g=some (DR g,()):=by
 have hP:=YF g.1
 have hS:=apy g.2.1 hg.2
 cases h1:Bp g.1 with
 |false=>simp only[FC,zog,zog,hP,hS,h1,DR,zU,qu,dW,pO,zl98,zl93,zl76,zl92]
 |true=>
  obtain⟨a1,a2⟩:=TC h1
  have hc:=Ny g.1 a1 a2
  have d1:(g.2.1.1==cnt g.1)=decide (g.2.1.1=cnt g.1):=HT _ _
  have d2:(g.2.1.2.1==g.1.2.1)=decide (g.2.1.2.1=g.1.2.1):=HT _ _
  cases h2:C0 g.2.1<;>cases h3:decide (g.2.1.1=cnt g.1)<;>
   simp only[FC,zog,zog,zog,hP,hS,hc,d1,d2,h1,h2,h3,DR,zU,qu,dW,pO,zl108,zl93,Bool.and_true,zl74,zl99,zl92]
def aiX (g:r5.D)(hg:Jj g):ID g=some (DR g,()):=by
 have hP:=aiZ g.1
 have hS:=ai2 g.2.1 hg.2
 cases h1:Bp g.1 with
 |false=>simp only[ID,zog,zog,hP,hS,h1,DR,zU,qu,dW,pO,zl98,zl93,zl76,zl92]
 |true=>
  obtain⟨a1,a2⟩:=TC h1
  have hc:=Xf g.1 a1 a2
  have d1:(g.2.1.1==cnt g.1)=decide (g.2.1.1=cnt g.1):=HT _ _
  have d2:(g.2.1.2.1==g.1.2.1)=decide (g.2.1.2.1=g.1.2.1):=HT _ _
  cases h2:C0 g.2.1<;>cases h3:decide (g.2.1.1=cnt g.1)<;>
   simp only[ID,zog,zog,zog,hP,hS,hc,d1,d2,h1,h2,h3,DR,zU,qu,dW,pO,zl108,zl93,Bool.and_true,zl74,zl99,zl92]
def W_ {g:r5.D}(h:DR g=true):Bp g.1=true∧C0 g.2.1=true∧g.2.1.1=cnt g.1∧g.2.1.2.1=g.1.2.1:=by
 simp only[DR,bB,mS] at h
 exact⟨h.1.1.1,h.1.1.2,h.1.2,h.2⟩
def Fq (g:r5.D):Bool:=DR g&&decide ((g.2.1.2.2.1.length:Int)=cnt g.1)
def agW (g:r5.D)(hg:Jj g):EJ g=some (Fq g,()):=by
 have hO:=YE g hg
 have hO':=zov hO
 rcases Bool.eq_false_or_eq_true (DR g) with h1|h1
 case inr=>simp only[EJ,hO',hO,h1,Fq,zU,qu,dW,pO,zl98,zl93,zl76,zl92]
 case inl=>
  obtain⟨a1,a2⟩:=TC (W_ h1).1
  have hc:=Ny g.1 a1 a2
  have aI:=zov hc
  have d1:((g.2.1.2.2.1.length:Int)==cnt g.1)=decide ((g.2.1.2.2.1.length:Int)=cnt g.1):=HT _ _
  simp only[EJ,hO',aI,hO,hc,h1,d1,Fq,zU,qu,dW,zl70,zl108,zl71,zl92]
def ai5 (g:r5.D)(hg:Jj g)(h:DR g=true):Wh.q4 g=some (Fq g,()):=by
 obtain⟨_,hs,e1,e2⟩:=W_ h
 have hp:=ai8 g.2.1 hg.2 (YA hs).1
 have hp':=zov hp
 have hd:=ahW hs
 have:(((pre g.2.1:Nat):Int)==g.2.1.1)=Fq g:=by
  unfold Fq
  rw[h,zl108,←e1]
  rw[HT]
  by_cases e:((pre g.2.1:Nat):Int)=g.2.1.1
  ·rw[zl86 e,zl86 (hd.1 e)]
  ·rw[zl90 e,zl90 (fun hh=>e (hd.2 hh))]
 simp only[Wh.q4,hp',hp,this,zU,qu,dW]
def Ip (g:r5.D):Bool:=
 (g.1.1==0)&&(g.1.2.1==0)&&((g.1.2.2.1.length:Int)==0)&&((g.1.2.2.2.1.length:Int)==0)&&(g.2.1.1==0)&&(g.2.1.2.1==0)&&((g.2.1.2.2.1.length:Int)==0)
def ai7 (g:r5.D):J2 g=some (Ip g,()):=by
 simp only[J2,Ip,Bool.cond_false_right]
def apv (c:bn.D):JQ c=some (Ip c.2.2.2.2.2.1,()):=by
 simp only[JQ,Ip,Bool.cond_false_right]
 congr 2
 generalize ((c.2.2.2.2.2.1.1.2.2.1.length:Int)==0)=a1
 generalize ((c.2.2.2.2.2.1.1.2.2.2.1.length:Int)==0)=a2
 generalize (c.2.2.2.2.2.1.1.1==0)=a3
 generalize (c.2.2.2.2.2.1.1.2.1==0)=a4
 generalize (c.2.2.2.2.2.1.2.1.1==0)=a5
 generalize (c.2.2.2.2.2.1.2.1.2.1==0)=a6
 generalize ((c.2.2.2.2.2.1.2.1.2.2.1.length:Int)==0)=a7
 cases a1<;>cases a2<;>cases a3<;>cases a4<;>simp
def C9 (c:bn.D):Bool:=
 decide (0≤c.1∧c.1≤3)&&decide (0≤c.2.1∧c.2.1≤99999)&&decide (0≤c.2.2.1∧c.2.2.1≤4)&&decide (0≤c.2.2.2.2.1∧c.2.2.2.2.1≤99999) &&
 (bif c.2.2.2.2.1==0 then Ip c.2.2.2.2.2.1 else DR c.2.2.2.2.2.1) &&
 (bif c.2.2.1==0 then c.2.2.2.1 == []&&c.2.2.2.2.1==0 else
  !(c.2.1==0)&&Gh c.2.2.2.1 &&
  (bif c.2.2.1==2 then !(c.2.2.2.2.1==0) && !Fq c.2.2.2.2.2.1 else bif c.2.2.1==3 then !(c.2.2.2.2.1==0)&&Fq c.2.2.2.2.2.1 else c.2.2.2.2.1==0 || !Fq c.2.2.2.2.2.1))
def apu (c:bn.D)(hg:Jj c.2.2.2.2.2.1)(hn:c.2.2.2.1.length≤4611686018427387904):DK c=some (C9 c,()):=by
 have hL:∀x lo hi,zog g7 (x,lo,hi)=(decide (lo≤x∧x≤hi),()):=fun x lo hi=>zov (AD x lo hi)
 have hN:=apv c
 have hN':=zov hN
 have hO:=YE _ hg
 have hO':=zov hO
 have hD:=agW _ hg
 have hD':=zov hD
 have hM:=agX _ hn
 have hM':=zov hM
 obtain⟨id,a,st,name,n,g,u⟩:=c
 dsimp only at hN hN' hO hO' hD hD' hM hM' ⊢
 simp only[DK,C9,hL,AD,hN,hN',hO,hO',hD,hD',hM,hM',qu,zl99,zU,zl92,dW]
 have e4:(n>0)=(0<n):=rfl
 simp only[e4]
 generalize hb:Fq g=b
 generalize hc:DR g=gc
 generalize hd:Ip g=gd
 generalize he:Gh name=ge
 cases h1:decide (0≤id∧id≤3)
 case false=>simp only[zl98,dW,zl93]
 cases h2:decide (0≤a∧a≤99999)
 case false=>simp only[zl98,zl70,dW,pO,zl93,zl74]
 cases h3:decide (0≤st∧st≤4)
 case false=>simp only[zl98,zl70,dW,pO,zl93,zl74]
 cases h4:decide (0≤n∧n≤99999)
 case false=>simp only[zl98,zl70,dW,pO,zl93,zl74]
 have hn0:decide (0<n) = !(n==0):=by
  have:=zl79 h4
  rw[HT]
  by_cases e:n=0
  ·subst e;rfl
  ·have:0<n:=by omega
   simp[e,this]
 rw[hn0]
 generalize (n==0)=n0
 generalize (a==0)=a0
 generalize (st==0)=s0
 generalize (st==2)=s2
 generalize (st==3)=s3
 generalize (name == [])=m0
 cases n0<;>cases gd<;>cases gc<;>cases s0<;>simp <;>cases a0<;>simp <;>cases ge<;>simp <;>cases s2<;>simp <;>cases s3<;>simp
def aiW (c:bn.D)(hg:Jj c.2.2.2.2.2.1)(hn:c.2.2.2.1.length≤4611686018427387904):Gx c=some (C9 c,()):=by
 have hL:∀x lo hi,zog AY (x,lo,hi)=(decide (lo≤x∧x≤hi),()):=fun x lo hi=>zov (Bh x lo hi)
 have hK:∀x,zog IS x=(decide (0≤x∧x≤3),()):=fun x=>zov (aad x)
 have hN:=ai7 c.2.2.2.2.2.1
 have hN':=zov hN
 have hO:=aiX _ hg
 have hO':=zov hO
 have hM:=aiY _ hn
 have hM':=zov hM
 have hD:=ai5 _ hg
 obtain⟨id,a,st,name,n,g,u⟩:=c
 dsimp only at hN hN' hO hO' hD hM hM' ⊢
 simp only[Gx,C9,hL,hK,Bh,aad,hN,hN',hO,hO',hM,hM',qu,zl99,zU,zl92,dW]
 have e4:(n>0)=(0<n):=rfl
 simp only[e4]
 generalize hd:Ip g=gd
 generalize he:Gh name=ge
 cases h1:decide (0≤id∧id≤3)
 case false=>simp only[zl98,dW,zl93]
 cases h2:decide (0≤a∧a≤99999)
 case false=>simp only[zl98,zl70,dW,pO,zl93,zl74]
 cases h4:decide (0≤n∧n≤99999)
 case false=>simp only[zl98,zl70,dW,pO,zl93,zl74]
 have hn0:decide (0<n) = !(n==0):=by
  have:=zl79 h4
  rw[HT]
  by_cases e:n=0
  ·subst e;rfl
  ·have:0<n:=by omega
   simp[e,this]
 rw[hn0]
 have hst:decide (0≤st∧st≤4)=(st==0 || (st==1 || (st==2 || (st==3 || st==4)))):=by
  simp only[HT,←Bool.decide_or]
  exact decide_eq_decide.2 ⟨fun h=>by omega,fun h=>by omega⟩
 rw[hst]
 have x12:(st==1)=true→(st==2)=false∧(st==3)=false:=by simp;intro e;subst e;decide
 have x42:(st==4)=true→(st==2)=false∧(st==3)=false:=by simp;intro e;subst e;decide
 generalize (n==0)=n0
 generalize (a==0)=a0
 generalize (st==0)=s0
 generalize (st==1)=s1 at *
 generalize (st==2)=s2 at *
 generalize (st==3)=s3 at *
 generalize (st==4)=s4 at *
 generalize (name == [])=m0
 rcases Bool.eq_false_or_eq_true (DR g) with hc|hc
 ·have hD1:=hD hc
  have hD2:=zov hD1
  simp only[hD1,hD2,hc,zl99,dW]
  generalize Fq g=b
  cases n0<;>cases gd<;>cases s0<;>simp <;>cases a0<;>simp <;>cases ge<;>simp <;>cases s1<;>simp at x12 ⊢ <;>cases s4<;>simp at x42 ⊢ <;>cases s2<;>simp at x12 x42 ⊢ <;>cases s3<;>simp at x12 x42 ⊢
 ·simp only[hc]
  generalize Fq g=b
  cases n0<;>simp <;>cases gd<;>simp <;>cases s0<;>simp <;>cases a0<;>simp <;>cases ge<;>simp <;>cases s1<;>simp at x12 ⊢ <;>cases s4<;>simp at x42 ⊢ <;>cases s2<;>simp at x12 x42 ⊢ <;>cases s3<;>simp at x12 x42 ⊢
structure Sml (c:bn.D):Prop where
 name:c.2.2.2.1.length≤1048576
 p3:c.2.2.2.2.2.1.1.2.2.1.length≤1048576
 p4:c.2.2.2.2.2.1.1.2.2.2.1.length≤1048576
 s3:c.2.2.2.2.2.1.2.1.2.2.1.length≤1048576
 row:∀x∈c.2.2.2.2.2.1.2.1.2.2.1,x.1.length≤1048576∧x.2.1.length≤1048576
def Sml.sm {c:bn.D}(h:Sml c):Jj c.2.2.2.2.2.1:=
 ⟨⟨by have:=h.p3;omega,by have:=h.p4;omega⟩,by have:=h.s3;omega,fun x hx=>by have:=(h.row x hx).1;omega⟩
end Pc
open Go Go.Ab Go.Lib
namespace Pl
end Pl
open Go Go.Ab Go.Lib
namespace Pl
structure SI (s:b7.D):Prop where
 sm:CM s
 fT:s.2.2.2.1.2.1.length≤1000
 lg:s.2.2.1.length≤1000000
def PI (p:b9.D):Prop:=(p.1=9∨(0≤p.1∧p.1<4))∧p.2.1.length≤1048576
def ItI (x:an.D):Prop:=x.2.1.length≤1048576∧x.2.2.2.1.length≤1048576
structure GI (g:r5.D):Prop where
 p3:g.1.2.2.1.length≤1048576
 p4:g.1.2.2.2.1.length≤1048576
 s3:g.2.1.2.2.1.length≤1000000
 row:∀x∈g.2.1.2.2.1,x.1.length≤1048576∧x.2.1.length≤1048576
structure CI (c:bn.D):Prop where
 name:c.2.2.2.1.length≤1048576
 g:GI c.2.2.2.2.2.1
structure WI (n:Nat) (w:fy.D):Prop where
 Au:SI w.1
 cls:w.2.1.length=4
 cl:∀c∈w.2.1,CI c
 At:w.2.2.1.length≤60
 pk:∀p∈w.2.2.1,PI p
 F3:w.2.2.2.1.length≤1000*n
 gi:∀x∈w.2.2.2.1,ItI x
def F1 (a:Int)(v:eL.D):Prop:=v.2.2.2.2.2.1.length≤9999999∧(0≤a∨(0≤v.2.1∧v.2.1<4))
def WI.ev {n:Nat}{w:fy.D}(W:WI n w):EvW w:=⟨W.Au.fT,fun x hx=>(W.Au.sm.items x hx).1,by have:=W.At;omega⟩
def Dd {a b:Nat}(h:a≤4194304)(k:b≤4194304):decide (a+b≤eV)=true:=zl86 (by unfold eV;omega)
def P4 {n:Nat}{w:fy.D}(W:WI n w){to:Int}{l:List eL.D}(ht:to=9∨to = -1)(hl:∀v∈l,F1 to v)(hn:l.length≤1000):Rt (Gn (w,to,l)) (fun y=>WI n y.1):=by
 unfold Gn
 refine Rt.loop (P:=fun y=>∃At,(At.length≤60∧∀p∈At,PI p)∧y.2.2.1.1=w.1∧y.2.2.2.2.2.2.2.2.2.2.1=w.2.1∧y.2.2.2.2.2.2.2.2.2.2.2.1=At∧y.2.2.2.2.2.2.2.2.2.2.2.2=w.2.2.2.1) (DQ (n:=l.length) (I:=fun i x=>∃At,x=(((i:Int),(),l,to,()),(w.1,(),(),(),w.2.2.2.2),_,w.2.1,At,w.2.2.2.1,_)∧At.length≤60∧∀p∈At,PI p) ?_ ?_ 0 _ (lB _) ⟨w.2.2.1,rfl,W.At,W.pk⟩) fun y hy=>?_
 ·rintro i _ hi ⟨At,rfl,h1,h2⟩
  have hw:=hl _ (zl96 hi)
  by_cases hr:At.length<60
  ·left
   have wr:=ahe (w:=l[i]) hw.1
   obtain⟨t,e,htl⟩:=wr
   have v:=zov e
   have d1:decide ((At.length:Int)<60)=true:=zdt
   have d2:=Dd (a:=At.length) (b:=1) (by omega) (by omega)
   have gd:l.getD i ((0:Int),(0:Int),(0:Int),(0:Int),(0:Int),[],[],())=l[i]:=getD_eq _ _ _ hi
   rcases ht with rfl|rfl
   ·refine⟨_,by simp only[Lu,q35,Nh,oget,gl hi,g0,d1,d2,zl94,gd,e,v,qu,zU,zl92,dW,pO,show decide ((9:Int)<0)=false by decide,zw (i:=i)],At ++ [(9,t.1,false,())],rfl,by simp;omega,?_⟩
    intro p hp
    rcases bU.1 hp with hp|hp
    ·exact h2 p hp
    ·rw[i_.1 hp];exact⟨.inl rfl,by show t.1.length≤_;omega⟩
   ·refine⟨_,by simp only[Lu,q35,Nh,oget,gl hi,g0,d1,d2,zl94,gd,e,v,qu,zU,zl92,dW,show decide ((-1:Int)<0)=true by decide,zw (i:=i)],At ++ [(l[i].2.1,t.1,false,())],rfl,by simp;omega,?_⟩
    intro p hp
    rcases bU.1 hp with hp|hp
    ·exact h2 p hp
    ·rw[i_.1 hp];exact⟨.inr (hw.2.resolve_left (by omega)),by show t.1.length≤_;omega⟩
  ·have d1:decide ((At.length:Int)<60)=false:=zdf
   refine .inr ⟨_,by simp only[Lu,gl hi,d1,dW,pO];rfl,At,⟨h1,h2⟩,rfl,rfl,rfl,rfl⟩
 ·rintro _ ⟨At,rfl,h1,h2⟩
  have d1:decide ((l.length:Int)<(l.length:Int))=false:=zdf
  exact⟨_,by simp only[Lu,d1,pO];rfl,At,⟨h1,h2⟩,rfl,rfl,rfl,rfl⟩
 ·obtain⟨At,⟨h1,h2⟩,e1,e2,e3,e4⟩:=hy
  refine Rt.ok ?_
  dsimp only
  rw[e1,e2,e3,e4]
  exact⟨W.Au,W.cls,W.cl,h1,h2,W.F3,W.gi⟩
def ac9 {n:Nat}{w:fy.D}(W:WI n w)(hn:n≤1000):Rt (JR w) (fun y=>WI (n+1) y.1):=by
 have hi0:=W.Au.fT
 unfold JR
 refine Rt.loop (P:=fun y=>∃g,(g.length≤1000*n+1000∧∀x∈g,ItI x)∧y.2.2.1.1=w.1∧y.2.2.2.2.2.2.2.2.2.2.1=w.2.1∧y.2.2.2.2.2.2.2.2.2.2.2.1=w.2.2.1∧y.2.2.2.2.2.2.2.2.2.2.2.2=g) (DQ (n:=w.1.2.2.2.1.2.1.length) (I:=fun i x=>∃g,x=(((i:Int),(),()),(w.1,(),(),(),w.2.2.2.2),_,w.2.1,w.2.2.1,g,_)∧g.length≤1000*n+i∧∀x∈g,ItI x) ?_ ?_ 0 _ (lB _) ⟨w.2.2.2.1,rfl,W.F3,W.gi⟩) fun y hy=>?_
 ·rintro i _ hi ⟨g,rfl,h1,h2⟩
  left
  have hm:=W.Au.sm.items _ (zl96 hi)
  have gd:w.1.2.2.2.1.2.1.getD i ((0:Int),[],(0:Int),[],())=w.1.2.2.2.1.2.1[i]:=getD_eq _ _ _ hi
  simp only[PE,gl hi,g0,zl94,gd,zU,zl92,dW,zl17,Dd (a:=g.length) (b:=1) (by omega) (by omega),Dd (a:=0) (b:=g.length) (by omega) (by omega),zw (i:=i)]
  cases decide (w.1.2.2.2.1.2.1[i].2.2.1>((g.length:Nat):Int))
  ·exact⟨_,rfl,g,rfl,by omega,h2⟩
  ·refine⟨_,rfl,g ++ [w.1.2.2.2.1.2.1[i]],rfl,by simp;omega,fun x hx=>?_⟩
   rcases bU.1 hx with hx|hx
   ·exact h2 x hx
   ·rw[i_.1 hx];exact hm
 ·rintro _ ⟨g,rfl,h1,h2⟩
  have d1:decide ((w.1.2.2.2.1.2.1.length:Int)<(w.1.2.2.2.1.2.1.length:Int))=false:=zdf
  exact⟨_,by simp only[PE,d1,pO];rfl,g,⟨by omega,h2⟩,rfl,rfl,rfl,rfl⟩
 ·obtain⟨g,⟨h1,h2⟩,e1,e2,e3,e4⟩:=hy
  refine Rt.ok ?_
  dsimp only
  rw[e1,e2,e3,e4]
  exact⟨W.Au,W.cls,W.cl,W.At,W.pk,by show g.length≤_;omega,h2⟩
def WI.up {n m:Nat}{w:fy.D}(W:WI n w)(h:n≤m):WI m w:=⟨W.Au,W.cls,W.cl,W.At,W.pk,by have:=W.F3;have:=Nat.mul_le_mul_left 1000 h;omega,W.gi⟩
section
variable {now cl hd:Int} {log:List UInt8} {fT:List It} {l:List Fr} {h:Nat} {S:List Sv} {B:List Bu}
def apT (T:TickI now cl hd fT l h S)(hB:B.length=2)(k j:Nat)(hk:k<S.length)(hj:D8 fT (S.getD k zS).2.2.1=some j) :
  Rt (Lr ((true,now,log,(cl,fT,()),(l,hd,()),B,S,()),(k:Int),fT.getD j z0)) (fun y=>∃l' B' S' n d,y.1=((true,now,log,(cl,fT,()),(l',n,()),B',S',()),[(3,(S.getD k zS).1,(S.getD k zS).2.1,(S.getD k zS).2.2.1,(S.getD k zS).2.2.2.1,[],d,())])∧l'.length=8∧B'.length=2∧S'.length=S.length):=by
 have hh (x:Int):BY x=some (Int.tmod x 2,()):=rfl
 have hjl:=WN hj
 obtain⟨i1,i2,i3⟩:=abi T.cat hjl
 have hb:=hs_b T.Au hk
 have nxk:=T.nx k hk
 have edk:=T.ed k hk
 have ced:0≤cl∧cl≤99999:=T.cat.ed
 have i1:0≤(fT.getD j z0).1∧(fT.getD j z0).1≤1:=i1
 have i2:1≤(fT.getD j z0).2.2.2.1.length:=i2
 have i3:(fT.getD j z0).2.2.2.1.length≤300:=i3
 have et:(fT.getD j z0).2.2.1=(S.getD k zS).2.2.1:=eq_of_beq (CA.1 hj).2.1
 unfold hs at hb
 generalize hv:S.getD k zS=v at *
 generalize ht:fT.getD j z0=t at *
 obtain⟨id,hid⟩:∃id:Nat,v.2.2.2.1=(id:Int):=⟨v.2.2.2.1.toNat,by omega⟩
 obtain⟨s',c,q1,q2,q3,q4,q5,q6,q7⟩:=adz t.2.2.2.1.length i2 i3
 have pz:=ady t.2.2.2.1.length s' c
 have pl:=als t.2.2.2.1.length s' c
 have r1:=apl t.2.2.2.1.length s' c id i3 q1 q2 q3 q4 q5 (by omega)
 have y1:=ao6 t.2.2.2.1.length s' c t.2.2.2.1 rfl i3 q1 q2 q3 q5
 have y2:=apm t.2.2.2.1.length s' c id t.2.2.2.1 rfl q1 q2 q3 q4 q5
 have rl:=(agz (id:=id) q4).2
 have rm:∀i,i<(DO c id).length→nc ((DO c id).getD i 0) 0 23=true:=fun i hi=>by
  have:=agA (id:=id) q4 (x:=(DO c id).getD i 0) (by rw[getD_eq _ _ _ hi];exact zl96 hi)
  exact zdt
 generalize symV s' c id t.2.2.2.1=d at *
 generalize ER s' (HR c s' t.2.2.2.1) c=ct at *
 generalize DO c id=row at *
 generalize DW t.2.2.2.1.length s' c=P at *
 obtain⟨P1,P2,W,ws,u⟩:=P
 have pz:P2=(s':Int):=pz
 subst pz
 have te:nc t.2.2.1 1 99999=true:=zdt
 have t1:nc t.1 0 1=true:=zdt
 unfold Lr
 unfold zS at hv
 refine Rt.all (by simp only[gl hk,g0,zU,zl92]) ?_
 simp only[zl94,hv]
 refine Rt.val (P:=fun y=>y=((P1,(s':Int),W,ws,u),())) ⟨_,q6,rfl⟩ fun y hy e=>?_
 subst hy
 refine Rt.all (by simp only[e,qu,zU]) ?_
 rw[hid]
 refine Rt.call (P:=fun y=>y=(row,())) ⟨_,r1,rfl⟩ fun y hy=>?_
 subst hy
 refine Rt.loop (P:=fun y=>∃l' hd',B8 l' hd'∧y=(((),(),(),(),(),(),(k:Int)),(false,(0:Int),[],((0:Int),(),()),((),(0:Int),()),(),(),()),(P1,(s':Int),(),(),u),row,t,v,(true,now,log,(cl,(),()),((),((hd':Nat):Int),()),(),(),()),[],[],[],[],W,ws,fT,l',B,S))
  (DQ (n:=row.length) (I:=fun i x=>∃l' hd',B8 l' hd'∧Jf l'∧x=(((i:Int),(),(),(),(),(),(),(k:Int)),(true,now,log,(cl,(),()),((),((hd':Nat):Int),()),(),(),()),row,t,(false,(0:Int),[],((0:Int),(),()),((),(0:Int),()),(),(),()),(P1,(s':Int),(),(),u),v,fT,l',B,S,[],[],[],[],W,ws)) ?_ ?_ 0 _ (lB _) ⟨l,h,T.G7,T.free,by rw[T.hde];rfl⟩) fun y hy=>?_
 ·rintro i _ hi ⟨l1,j_,G,F,rfl⟩
  left
  have e1:=apc l1 j_ t.1 t.2.2.1 (row.getD i 0) G.hd G.len fun k hk=>G.held k hk
  have wi:=zw (i:=i)
  rcases got_ok G F t1 te (rm i hi) with⟨l',hd',n,c,eq,hc,g⟩|⟨f,c,eq,hc⟩
  ·rw[eq] at e1
   have el:=apf g.g n g.lt g.one
   have aI:(bif(c==(0:Int)) then true else c==(1:Int))=true:=by rcases hc with rfl|rfl<;>rfl
   exact⟨_,by simp only[M7,gl hi,g0,zl94,e1,zov e1,aI,el,zov el,Aw,wi],_,_,g.g',g.f',rfl⟩
  ·rw[eq] at e1
   have aI:(bif(c==(0:Int)) then true else c==(1:Int))=false:=by rcases hc with rfl|rfl<;>rfl
   exact⟨_,by simp only[M7,gl hi,g0,zl94,e1,zov e1,aI,Aw,pO,wi],_,_,G,F,rfl⟩
 ·rintro _ ⟨l1,j_,G,F,rfl⟩
  have d1:decide ((row.length:Int)<(row.length:Int))=false:=zdf
  exact⟨_,by simp only[M7,d1,pO],l1,j_,G,rfl⟩
 obtain⟨l',hd',G,rfl⟩:=hy
 refine Rt.call (P:=fun y=>y.1=Int.tmod v.1 2) ⟨_,hh _,rfl⟩ fun y hy=>?_
 have hk0:decide (0≤y.1)=true:=zl86 (by rw[hy];omega)
 have hk1:decide (y.1<(B.length:Int))=true:=zl86 (by rw[hy];omega)
 refine Rt.all (by simp only[hk0,hk1,zU,zl92]) (Rt.all (by simp only[g0,gl hk,zU,zl92]) (Rt.all (by simp only[g0,zl66,gl hk,zU,zl92]) ?_))
 refine Rt.val (P:=fun y=>y=(ct,())) ⟨_,y1,rfl⟩ fun y hy e2=>?_
 subst hy
 refine Rt.val (P:=fun y=>y.1=d) ⟨_,y2,rfl⟩ fun y hy e3=>?_
 refine Rt.all (by simp only[e2,e3,qu,zU,zl92]) (Rt.ok ⟨l',_,_,(hd':Int),y.1,by rw[←hid],G.len,by rw[zl66];exact hB,by rw[zl66,zl66]⟩)
def HrI (y:(b7.D×List eL.D)×Unit):Prop:=SI y.1.1∧y.1.2.length≤1000∧∀v∈y.1.2,F1 (-1) v
def hr0 {s:b7.D}(h:SI s):HrI ((s,[]),()):=⟨h,by simp,by simp⟩
def hr1 {s:b7.D}(h:SI s){v:eL.D}(hv:F1 (-1) v):HrI ((s,[v]),()):=⟨h,by simp,by simpa using hv⟩
def Qu:SI C6:=⟨HJ,by simp[C6],by simp[C6]⟩
def P5 {s:b7.D}(Sm:CM s)(ho:AJ s=true):SI s:=⟨Sm,by have:=(EY ho).len;omega,by have:=Gi ho;omega⟩
def apY {s:b7.D}(Sm:CM s):Rt (q31 s) HrI:=by
 have so:=Nx s Sm
 unfold q31
 refine Rt.call (P:=fun y=>y.1=AJ s) ⟨_,so,rfl⟩ fun y hy=>Rt.bif (fun _=>Rt.ok (hr0 Qu)) fun hc=>?_
 rw[hy] at hc
 have ok:AJ s=true:=by simpa using hc
 have C:=(EY ok).len
 have sc:=Nw s Sm (by omega)
 refine Rt.call (P:=fun y=>y=(s,())) ⟨_,sc,rfl⟩ fun y hy=>?_
 subst hy
 refine Rt.bif (fun _=>Rt.ok (hr0 (P5 Sm ok))) fun hc=>?_
 obtain⟨up,now,log,⟨cl,fT,cu⟩,p,bk,S,u⟩:=s
 cases up with
 |false=>cases hc
 |true=>
 have h9:now<99999:=by simp at hc;omega
 have S1:S.length≤1048576:=Sm.Au
 obtain⟨l,h,b0,b1,rfl,rfl,T,o0,o1,a0,a1,N1⟩:=ok_up ok h9 (by omega)
 have n0:0≤now∧now≤99999:=by
  have q:=ok
  unfold AJ at q
  simp only[bB] at q
  exact zl79 q.1
 obtain⟨N,hN⟩:∃N,now=N-1:=⟨now+1,by omega⟩
 subst hN
 rw[show N-1+1=N by omega] at T
 dsimp only
 rw[wrap64 (by omega) (by omega),show N-1+1=N by omega]
 refine Rt.loop (P:=fun y=>y=_) ⟨_,apB N log cl (h:Int) fT l S b0 b1,rfl⟩ fun y hy=>?_
 subst hy
 have hB: [bV b0 N,bV b1 N].length=2:=rfl
 have sj:=ape (true,N,log,(cl,fT,()),(l,(h:Int),()),[bV b0 N,bV b1 N],S,()) T.Au T.cat rfl
 have jn:=agN (abk T.Au (fun i=>(S.getD i zS).1) (O:=De [bV b0 N,bV b1 N] fT S S.length) (fun i hi=>(agE.1 hi).1) (agD _ _ _ _))
 rw[abj] at jn
 dsimp only at sj
 have kS:∀b,Cz (vO S (De [bV b0 N,bV b1 N] fT S S.length)) (De [bV b0 N,bV b1 N] fT S S.length).length=some b→(De [bV b0 N,bV b1 N] fT S S.length).getD b 0<S.length:=fun b e=>by
  have hb:=MB e
  rw[getD_eq _ _ _ hb]
  exact(agE.1 (zl96 hb)).1
 generalize De [bV b0 N,bV b1 N] fT S S.length=K at *
 generalize [bV b0 N,bV b1 N]=B at *
 have SmX:∀(l:List Fr) (n:Int) (B:List Bu) (S':List Sv),l.length=8→B.length=2→S'.length≤S.length→SI (true,N,log,(cl,fT,()),(l,n,()),B,S',()):=fun l n B S' h1 h2 h3=>⟨⟨Sm.log,Sm.cat,Sm.items,by show l.length≤_;omega,by show B.length≤_;omega,by show S'.length≤_;omega⟩,by show fT.length≤_;have:fT.length≤8:=C;omega,by have:=Gi ok;show log.length≤_;have:log.length≤9000:=this;omega⟩
 have lp:=T.G7.len
 refine Rt.call (P:=fun y=>y=(B_ (fun i=>(S.getD i zS).1) S K,())) ⟨_,sj,rfl⟩ fun y hy=>?_
 subst hy
 refine Rt.call (P:=fun y=>y.1=Cq (Cz (vO S K) K.length)) ⟨_,jn,rfl⟩ fun y hy=>Rt.bif (fun _=>Rt.ok (hr0 (SmX _ _ _ _ lp hB (bA _)))) fun hc=>?_
 rw[hy] at hc
 cases e:Cz (vO S K) K.length with
 |none=>rw[e] at hc;cases hc
 |some b=>
 have hb:=MB e
 have jl:b<(B_ (fun i=>(S.getD i zS).1) S K).length:=by rw[Jv];exact hb
 have jg:=SU (fun i=>(S.getD i zS).1) S K b hb
 have kl:=kS b e
 have at_:=ao4 (true,N,log,(cl,fT,()),(l,(h:Int),()),B,S,()) T.Au (K.getD b 0) kl
 have hyb:y.1=((b:Nat):Int):=by rw[hy,e];rfl
 generalize K.getD b 0=k at *
 have ed1:=Ue (cl,fT,()) (S.getD k zS).2.2.1 (by show fT.length≤_;have:fT.length≤8:=C;omega)
 have vk:∀j (d:List UInt8) (a:Int),F1 (-1) (j,(S.getD k zS).1,(S.getD k zS).2.1,(S.getD k zS).2.2.1,a,[],d,()):=fun j d a=>⟨by simp,.inr ⟨(T.Au.cl k kl).1,by have:=(T.Au.cl k kl).2;show(S.getD k zS).1<4;omega⟩⟩
 dsimp only at at_ ed1
 unfold zJ at jg
 rw[hyb]
 dsimp only
 simp only[zl94,jg]
 refine Rt.val (P:=fun y=>y=(((k:Nat):Int),())) ⟨_,at_,rfl⟩ fun y hy e1=>?_
 subst hy
 refine Rt.all (by simp only[e1,qu,g0,gl jl,zU,zl92]) ?_
 have hz:List.getD S (Int.toNat ((k:Nat):Int)) ((0:Int),(0:Int),(0:Int),(0:Int),(0:Int),(0:Int),())=S.getD k zS:=by rw[zl94];rfl
 dsimp only
 rw[hz]
 refine Rt.val (P:=fun y=>y=((HZ fT (D8 fT (S.getD k zS).2.2.1),(D8 fT (S.getD k zS).2.2.1).isSome),())) ⟨_,ed1,rfl⟩ fun y hy e2=>?_
 subst hy
 refine Rt.all (by simp only[e2,qu,g0,gl kl,zU,zl92]) ?_
 cases ej:D8 fT (S.getD k zS).2.2.1 with
 |none=>
  refine Rt.bif (fun _=>Rt.all (by simp only[g0,gl kl,zU,zl92]) ?_) fun hc=>by cases hc
  have w:=Uh (true,N,log,(cl,fT,()),(l,(h:Int),()),B,S,()) T.Au.len (S.getD k zS).1
  refine Rt.val (P:=fun y=>y=_) ⟨_,w,rfl⟩ fun y hy e3=>?_
  subst hy
  refine Rt.val (P:=fun y=>y=([((6:Int),(S.getD k zS).1,(S.getD k zS).2.1,(S.getD k zS).2.2.1,(0:Int),[],[],())],())) ⟨_,rfl,rfl⟩ fun y hy e4=>?_
  subst hy
  refine Rt.all (by simp only[e3,e4,qu,zU,zl92]) (Rt.ok (hr1 (SmX _ _ _ _ lp hB ?_) (vk _ _ _)))
  rw[wo_all T.Au k kl,zl113 kl];omega
 |some j=>
  refine Rt.bif (fun hc=>by cases hc) fun _=>?_
  refine Rt.call (apT T hB k j kl ej) fun y hy=>?_
  obtain⟨l',B',S',n,d,h1,h2,h3,h4⟩:=hy
  refine Rt.ok ?_
  rw[h1]
  exact hr1 (SmX _ _ _ _ h2 h3 (by omega)) (vk _ _ _)
end
def WC {s:List UInt8}(b:Int)(hs:s.length≤1048576):Rt (Dt (s,b)) (fun y=>∀x∈y.1,x.length≤s.length):=by
 unfold Dt
 refine Rt.loop (P:=fun y=>∃f:Nat,f≤s.length∧y.1=((f:Int),s,())∧y.2.length≤s.length∧∀x∈y.2,x.length≤s.length)
  (DQ (n:=s.length) (I:=fun i x=>∃(f:Nat) (l:List (List UInt8)),x=(((i:Int),(f:Int),s,(),b),l)∧f≤i∧l.length≤i∧∀x∈l,x.length≤s.length) ?_ ?_ 0 _ (lB _) ⟨0,[],rfl,bA _,bA _,by simp⟩) fun y hy=>?_
 ·rintro i _ hi ⟨f,l,rfl,h1,h2,h3⟩
  left
  simp only[Du,gl hi,g0,zl94,zU,zl92,dW,Dd (a:=l.length) (b:=1) (by omega) (by omega),zdt (p:=(f:Int)≤(i:Int)),zdt (p:=(i:Int)≤(s.length:Int)),zw (i:=i)]
  cases (((s.getD i 0).toNat:Nat):Int)==b
  ·exact⟨_,rfl,f,l,rfl,by omega,by omega,h3⟩
  ·refine⟨_,rfl,i+1,_,rfl,by omega,by simp;omega,fun x hx=>?_⟩
   rcases bU.1 hx with hx|hx
   ·exact h3 x hx
   ·rw[i_.1 hx];simp;omega
 ·rintro _ ⟨f,l,rfl,h1,h2,h3⟩
  have d1:decide ((s.length:Int)<(s.length:Int))=false:=zdf
  exact⟨(((f:Int),s,()),l),by simp only[Du,d1,pO],f,h1,rfl,h2,h3⟩
 ·obtain⟨f,h1,e,h2,h3⟩:=hy
  dsimp only
  rw[e]
  refine Rt.all (by simp only[g0,zU,zl92,Dd (a:=y.2.length) (b:=1) (by omega) (by omega),zdt (p:=(f:Int)≤(s.length:Int)),Int.le_refl,zl73]) (Rt.ok fun x hx=>?_)
  rcases bU.1 hx with hx|hx
  ·exact h3 x hx
  ·rw[i_.1 hx];simp
def XW {s:List UInt8}(hs:s.length≤1048576):Rt (As s) (fun _=>True):=⟨_,Jx _ (by omega),trivial⟩
def KY {l:List (List UInt8)}{n:Nat}(h:∀x∈l,x.length≤n)(i:Nat):(l.getD i []).length≤n:=by
 by_cases hi:i<l.length
 ·rw[getD_eq _ _ _ hi];exact h _ (zl96 hi)
 ·rw[zl26,zl8 (by omega)];simp
def ac_ {s:List UInt8}(hs:s.length≤1048576):Rt (Hg s) (fun y=>y.1.length≤4):=by
 unfold Hg
 refine Rt.call (WC 44 hs) fun y hy=>?_
 refine Rt.loop (P:=fun z=>z.2.length≤4) (DQ (n:=4) (I:=fun i x=>∃l:List Int,x=(((i:Int),(),()),y.1,l)∧l.length≤i) ?_ ?_ 0 _ (lB _) ⟨[],rfl,bA _⟩) fun z hz=>Rt.ok hz
 ·rintro i _ hi ⟨l,rfl,h⟩
  by_cases h1:i<y.1.length
  ·obtain⟨z,e,_⟩:=XW (s:=y.1.getD i []) (by have:=KY hy i;omega)
   have d1:decide ((i:Int)≤3)=true:=zdt
   exact .inl ⟨(((((i+1:Nat)):Int),(),()),y.1,l ++ [z.1]),by simp only[Nb,gl h1,d1,g0,zl94,e,zov e,qu,zU,zl92,dW,Dd (a:=l.length) (b:=1) (by omega) (by omega),zw (i:=i)],_,rfl,by simp;omega⟩
  ·have d1:decide ((i:Int)<(y.1.length:Int))=false:=zdf
   exact .inr ⟨((),l),by simp only[Nb,d1,pO],by dsimp only;omega⟩
 ·rintro _ ⟨l,rfl,h⟩
  refine⟨((),l),?_,h⟩
  have d1:(bif decide ((((4:Nat)):Int)<(y.1.length:Int)) then decide ((((4:Nat)):Int)≤3) else false)=false:=by cases decide ((((4:Nat)):Int)<(y.1.length:Int))<;>rfl
  simp only[Nb,d1,pO]
def abv {l:List Int}(hl:l.length≤3)(hx:∀x∈l,0≤x∧x≤9999999):Rt (Hf l) (fun y=>y.1.length≤24):=by
 unfold Hf
 refine Rt.loop (P:=fun y=>y.1.length≤24) (DQ (n:=l.length) (I:=fun i x=>∃t:List UInt8,x=(((i:Int),l,t),())∧t.length≤8*i) ?_ ?_ 0 _ (lB _) ⟨[],rfl,bA _⟩) fun y hy=>Rt.ok hy
 ·rintro i _ hi ⟨t,rfl,h⟩
  left
  have hm:=hx _ (zl96 hi)
  obtain⟨u,e,hu⟩:=HY hm.1 hm.2
  have v:=zov e
  have gd:l.getD i 0=l[i]:=getD_eq _ _ _ hi
  have r1:=Dd (a:=t.length) (b:=1) (by omega) (by omega)
  have r2:=Dd (a:=t.length) (b:=u.1.length) (by omega) (by omega)
  have r3:=Dd (a:=(t ++ [(44:UInt8)]).length) (b:=u.1.length) (by simp;omega) (by omega)
  simp only[PF,gl hi,g0,zl94,gd,e,v,qu,zU,zl92,dW,r1,r2,r3,zw (i:=i)]
  cases decide ((i:Int)>0)
  ·exact⟨_,rfl,_,rfl,by simp;omega⟩
  ·exact⟨_,rfl,_,rfl,by simp;omega⟩
 ·rintro _ ⟨t,rfl,h⟩
  have d1:decide ((l.length:Int)<(l.length:Int))=false:=zdf
  exact⟨(t,()),by simp only[PF,d1,pO],by dsimp only;omega⟩
def alv {p:gT.D}(h:Pc.Bp p=true):(1≤p.1∧p.1≤300)∧(1≤p.2.1∧p.2.1≤16)∧(p.2.2.1.length≤3∧∀x∈p.2.2.1,0≤x∧x≤9999999)∧(p.2.2.2.1.length≤3∧∀x∈p.2.2.2.1,0≤x∧x≤9999999):=by
 unfold Pc.Bp Pc.Cv at h
 simp only[bB,mS] at h
 obtain⟨⟨⟨⟨⟨⟨a1,a2⟩,a3⟩,a4⟩,a5⟩,b⟩,_⟩:=h
 have hb:∀i,i<p.2.2.1.length→(1≤p.2.2.1.getD i 0∧p.2.2.1.getD i 0≤Pc.cnt p)∧(1≤p.2.2.2.1.getD i 0∧p.2.2.2.1.getD i 0≤99):=fun i hi=>by
  have:=Pc.we.1 b i hi
  unfold Pc.Gk at this
  simp only[bB,mS] at this
  exact⟨this.1.1,this.2⟩
 refine⟨a1,a2,⟨a4.2,fun x hx=>?_⟩,by omega,fun x hx=>?_⟩
 ·obtain⟨i,hi,rfl⟩:=zl100 hx
  have:=(hb i hi).1
  rw[getD_eq _ _ _ hi] at this
  omega
 ·obtain⟨i,hi,rfl⟩:=zl100 hx
  have:=(hb i (by omega)).2
  rw[getD_eq _ _ _ hi] at this
  omega
def Yh (p:gT.D):Rt (EI p) (fun y=>y.1.length≤80):=by
 unfold EI
 refine Rt.call (P:=fun y=>y.1=Pc.Bp p) ⟨_,Pc.YF p,rfl⟩ fun y hy=>Rt.bif (fun _=>Rt.ok (by simp)) fun hc=>?_
 rw[hy] at hc
 obtain⟨h1,h2,⟨h3,h4⟩,h5,h6⟩:=alv (p:=p) (by simpa using hc)
 refine Rt.val (HY (show 0≤p.1 by omega) (by omega)) fun y1 k1 e1=>?_
 refine Rt.val (HY (show 0≤p.2.1 by omega) (by omega)) fun y2 k2 e2=>?_
 refine Rt.val (abv h3 h4) fun y3 k3 e3=>?_
 refine Rt.val (abv h5 h6) fun y4 k4 e4=>?_
 refine Rt.all ?_ (Rt.ok ?_)
 ·simp[e1,e2,e3,e4,qu,zU,eV]
  omega
 ·simp only[eY,zl6,rA]
  omega
def alr {t:List UInt8}(ht:t.length≤1048576):Rt (q60 t) (fun y=>y.1.1.2.2.1.length≤4∧y.1.1.2.2.2.1.length≤4):=by
 unfold q60
 have z:Rt (some ((((0:Int),(0:Int),([]:List Int),([]:List Int),()),false),())) (fun y=>y.1.1.2.2.1.length≤4∧y.1.1.2.2.2.1.length≤4):=Rt.ok ⟨by simp,by simp⟩
 refine Rt.call (WC 58 ht) fun y hy=>Rt.bif (fun _=>z) fun h3=>?_
 have h3:y.1.length=3:=by simp at h3;omega
 refine Rt.val (WC 47 (by have:=KY hy (Int.toNat 0);omega)) fun u hu e=>?_
 refine Rt.all (by simp only[e,qu,h3,zU];rfl) (Rt.bif (fun _=>z) fun h2=>?_)
 have h2:u.1.length=2:=by simp at h2;omega
 have hg:=KY hy (Int.toNat 0)
 refine Rt.val (ac_ (by have:=KY hy (Int.toNat 1);omega)) fun y1 k1 e1=>?_
 refine Rt.val (ac_ (by have:=KY hy (Int.toNat 2);omega)) fun y2 k2 e2=>?_
 refine Rt.val (XW (by have:=KY hu (Int.toNat 1);omega)) fun y3 _ e3=>?_
 refine Rt.val (XW (by have:=KY hu (Int.toNat 0);omega)) fun y4 _ e4=>?_
 refine Rt.all (by simp only[e1,e2,e3,e4,qu,h3,h2,zU];rfl) ?_
 exact Rt.call (Yh _) fun _ _=>Rt.bif (fun _=>z) fun _=>Rt.ok ⟨k1,k2⟩
section
variable {up:Bool} {now cl:Int} {log:List UInt8} {fT:List It} {p:Po} {bk:List Bu} {S:List Sv} {w:eL.D}
def OpI (S0:b7.D)(y:(b7.D×List eL.D)×Unit):Prop:=(∃S',S'.length≤1000∧y.1.1=(S0.1,S0.2.1,S0.2.2.1,S0.2.2.2.1,S0.2.2.2.2.1,S0.2.2.2.2.2.1,S',S0.2.2.2.2.2.2.2))∧y.1.2.length≤1000∧∀v∈y.1.2,F1 (-1) v
def YV (S:List Sv)(c:Int):(wo S c S.length).length≤S.length:=YW S c S.length
def ins_le (S:List Sv)(v:Sv):(SS S v).length≤S.length+1:=by unfold SS;simp;omega
def alc (I:EO S now)(C:BF (cl,fT,()))(hw:0≤w.2.1∧w.2.1≤3):Rt (q97 ((true,now,log,(cl,fT,()),p,bk,S,()),w)) (OpI (true,now,log,(cl,fT,()),p,bk,S,())):=by
 have l4:=ag0 I
 have hn:=I.len
 have same:∀{v:eL.D},F1 (-1) v→OpI (true,now,log,(cl,fT,()),p,bk,S,()) (((true,now,log,(cl,fT,()),p,bk,S,()),[v]),()):=fun hv=>⟨⟨S,by omega,rfl⟩,by simp,by simpa using hv⟩
 have wd:∀a b c d (t:List UInt8),F1 (-1) (a,w.2.1,b,c,d,[],t,()):=fun a b c d t=>⟨by simp,.inr ⟨hw.1,by show w.2.1<4;omega⟩⟩
 have hh (x:Int):BY x=some (Int.tmod x 2,()):=rfl
 have gone:∀e:Int,IV (w.2.1,w.2.2.1,e)=some ([((6:Int),w.2.1,w.2.2.1,e,(0:Int),[],[],())],()):=fun _=>rfl
 have pw:∀{it:It},it∈fT→∃P t,BX ((it.2.2.2.1.length:Nat):Int)=some (P,())∧EI P=some (t,()):=fun {it} hi=>by
  obtain⟨_,h1,h2⟩:=JL (C.ok it hi)
  obtain⟨s',c,_,_,_,_,_,q6,_⟩:=adz it.2.2.2.1.length h2.1 h2.2
  obtain⟨t,e,_⟩:=Yh (DW it.2.2.2.1.length s' c)
  exact⟨_,t.1,q6,e⟩
 unfold q97
 have at_:=agT (true,now,log,(cl,fT,()),p,bk,S,()) hn w.2.1
 refine Rt.call (P:=fun y=>y.1=Cq (svO S w.2.1)) ⟨_,at_,rfl⟩ fun y hy=>?_
 have ko:∀c:Bool,(!decide (y.1≥0) || decide ((0:Int)≤y.1))=true∧(!decide (y.1≥0) || decide (y.1<(S.length:Int)))=true∧((!!bif decide (y.1<0) then true else c) || decide ((0:Int)≤y.1))=true∧((!!bif decide (y.1<0) then true else c) || decide (y.1<(S.length:Int)))=true∧(!!decide (y.1<0) || decide ((0:Int)≤y.1))=true∧(!!decide (y.1<0) || decide (y.1<(S.length:Int)))=true:=by
  intro c
  cases e:svO S w.2.1 with
  |none=>rw[e] at hy;rw[hy];cases c<;>simp[Cq]
  |some k=>
   rw[e] at hy
   have:=(CA.1 e).1
   have e1:decide (y.1<(S.length:Int))=true:=zl86 (by rw[hy];show((k:Nat):Int)<_;omega)
   have e2:decide ((0:Int)≤y.1)=true:=zl86 (by rw[hy];show(0:Int)≤((k:Nat):Int);omega)
   rw[e1,e2]
   simp
 have k1:=ko true
 refine Rt.all (by simp only[k1,zU,zl92]) (Rt.bif (fun _=>Rt.ok ⟨⟨S,by omega,rfl⟩,by simp,by simp⟩) fun _=>?_)
 refine Rt.val (P:=fun u=>u.1=Int.tmod w.2.1 2) ⟨_,hh _,rfl⟩ fun u hu e1=>?_
 obtain⟨it,ok,eg,hm⟩:∃it ok,DX ((cl,fT,()),u.1,w.2.2.2.2.2.1)=some ((it,ok),())∧(ok=true→it∈fT):=by
  cases ha:C7 fT u.1 w.2.2.2.2.2.1 with
  |none=>exact⟨_,_,ahz C ha,by intro h;cases h⟩
  |some i=>obtain⟨hi,e⟩:=ahA C ha;exact⟨_,_,e,fun _=>by show fT.getD i z0∈fT;rw[getD_eq _ _ _ hi];exact zl96 _⟩
 refine Rt.val (P:=fun u=>u=((it,ok),())) ⟨_,eg,rfl⟩ fun z hz e2=>?_
 subst hz
 refine Rt.all (by simp only[e1,e2,qu,zU,zl92]) (Rt.bif (fun _=>?_) fun hc=>?_)
 ·refine Rt.all (by simp only[k1,zU,zl92]) (Rt.bif (fun _=>?_) fun _=>?_)
  ·have wo_:=Uh (true,now,log,(cl,fT,()),p,bk,S,()) hn w.2.1
   have:=YV S w.2.1
   refine Rt.call (P:=fun y=>y=_) ⟨_,wo_,rfl⟩ fun y hy=>Rt.call (P:=fun y=>y=_) ⟨_,gone _,rfl⟩ fun z hz=>?_
   subst hy hz
   exact Rt.ok ⟨⟨_,by dsimp only;omega,rfl⟩,by simp,by simpa using wd _ _ _ _ _⟩
  ·refine Rt.call (P:=fun y=>y=_) ⟨_,gone _,rfl⟩ fun z hz=>?_
   subst hz
   exact Rt.ok (same (wd _ _ _ _ _))
 ·have ok1:ok=true:=by cases ok with | true=>rfl|false=>cases hc
  obtain⟨P,t,p1,p2⟩:=pw (hm ok1)
  have k2:=ko (decide ((List.getD S (Int.toNat y.1) ((0:Int),(0:Int),(0:Int),(0:Int),(0:Int),(0:Int),())).2.1<w.2.2.1))
  refine Rt.all (by simp only[k2,zU,zl92]) (Rt.bif (fun _=>?_) fun _=>?_)
  ·have wi:=apt (true,now,log,(cl,fT,()),p,bk,S,()) (by show S.length≤1000;omega) (w.2.1,w.2.2.1,it.2.2.1,(0:Int),(0:Int),now,())
   have h1:=ins_le (wo S w.2.1 S.length) (w.2.1,w.2.2.1,it.2.2.1,(0:Int),(0:Int),now,())
   have h2:=YV S w.2.1
   refine Rt.call (P:=fun y=>y=_) ⟨_,wi,rfl⟩ fun y hy=>?_
   subst hy
   refine Rt.val (P:=fun y=>y=(P,())) ⟨_,p1,rfl⟩ fun y hy e3=>?_
   subst hy
   refine Rt.val (P:=fun y=>y=(t,())) ⟨_,p2,rfl⟩ fun y hy e4=>?_
   subst hy
   exact Rt.all (by simp only[e3,e4,qu,zU,zl92]) (Rt.ok ⟨⟨_,by dsimp only;omega,rfl⟩,by simp,by simpa using wd _ _ _ _ _⟩)
  ·refine Rt.val (P:=fun y=>y=(P,())) ⟨_,p1,rfl⟩ fun y hy e3=>?_
   subst hy
   refine Rt.val (P:=fun y=>y=(t,())) ⟨_,p2,rfl⟩ fun y hy e4=>?_
   subst hy
   exact Rt.all (by simp only[e3,e4,qu,zU,zl92]) (Rt.ok (same (wd _ _ _ _ _)))
def aiT (I:EO S now)(C:BF (cl,fT,()))(hw:0≤w.2.1∧w.2.1≤3):Rt (q95 ((true,now,log,(cl,fT,()),p,bk,S,()),w)) (OpI (true,now,log,(cl,fT,()),p,bk,S,())):=by
 have l4:=ag0 I
 have hn:=I.len
 unfold q95
 refine Rt.bif (fun _=>Rt.call (alc I C hw) fun y hy=>Rt.ok hy) fun _=>?_
 have at_:=agT (true,now,log,(cl,fT,()),p,bk,S,()) hn w.2.1
 refine Rt.call (P:=fun y=>y.1=Cq (svO S w.2.1)) ⟨_,at_,rfl⟩ fun y hy=>?_
 have st:OpI (true,now,log,(cl,fT,()),p,bk,S,()) (((true,now,log,(cl,fT,()),p,bk,S,()),[]),()):=⟨⟨S,by omega,rfl⟩,by simp,by simp⟩
 cases e:svO S w.2.1 with
 |none=>
  rw[e] at hy
  rw[hy]
  exact Rt.all rfl (Rt.bif (fun _=>Rt.ok st) fun hc=>by cases hc)
 |some k=>
  rw[e] at hy
  have hk:=(CA.1 e).1
  have hy:y.1=((k:Nat):Int):=hy
  rw[hy]
  have dk:decide (((k:Nat):Int)<0)=false:=zdf
  refine Rt.all (by simp only[g0,gl hk,zl99,zU,zl92]) (Rt.bif (fun _=>Rt.ok st) fun _=>?_)
  refine Rt.box q33_v (P:=fun y=>∃S',S'.length≤1000∧((∃z,y = .inl (((),()),z,(true,now,log,(cl,fT,()),p,bk,(),()),[],[],[],[],S'))∨(∃z,y = .inr (((),()),z,(true,now,log,(cl,(),()),((),p.2),(),(),()),[],[],[],[],fT,p.1,bk,S')))) ?_ fun y hy=>?_
  ·unfold q33
   refine Rt.bif (fun _=>?_) fun _=>?_
   ·have wo_:=Uh (true,now,log,(cl,fT,()),p,bk,S,()) hn w.2.1
    have:=YV S w.2.1
    refine Rt.call (P:=fun y=>y=_) ⟨_,wo_,rfl⟩ fun y hy=>?_
    subst hy
    exact Rt.ok ⟨_,by dsimp only;omega,.inl ⟨_,rfl⟩⟩
   ·refine Rt.all (by simp only[g0,gl hk,zl99,zU,zl92]) (Rt.bif (fun _=>Rt.all (by simp only[g0,gl hk,zU,zl92]) (Rt.ok ⟨_,?_,.inr ⟨_,rfl⟩⟩)) fun _=>Rt.ok ⟨S,by omega,.inr ⟨_,rfl⟩⟩)
    dsimp only;rw[zl66];omega
  ·obtain⟨S',h1,⟨z,rfl⟩|⟨z,rfl⟩⟩:=hy
   ·exact Rt.sum (fun y e=>by cases e;exact Rt.ok ⟨⟨S',h1,rfl⟩,by simp,by simp⟩) fun y e=>by cases e
   ·exact Rt.sum (fun y e=>by cases e) fun y e=>by cases e;exact Rt.ok ⟨⟨S',h1,rfl⟩,by simp,by simp⟩
end
def aiS {s:b7.D}(Sm:CM s){w:eL.D}(hw:Ej w=true):Rt (q28 (s,w)) HrI:=by
 have so:=Nx s Sm
 have sz:=UF hw
 unfold q28
 refine Rt.call (P:=fun y=>y.1=AJ s) ⟨_,so,rfl⟩ fun y hy=>Rt.bif (fun _=>Rt.ok (hr0 Qu)) fun hc=>?_
 rw[hy] at hc
 have ok:AJ s=true:=by simpa using hc
 have C:=(EY ok).len
 have sc:=Nw s Sm (by omega)
 refine Rt.call (P:=fun y=>y=(s,())) ⟨_,sc,rfl⟩ fun y hy=>?_
 subst hy
 have a:=Qa w (by omega)
 refine Rt.val (P:=fun y=>y.1=Ej w) ⟨_,a,rfl⟩ fun y hw2 e1=>?_
 refine Rt.all (by simp only[e1,qu,zU,zl99]) (Rt.bif (fun _=>Rt.ok (hr0 (P5 Sm ok))) fun hc=>?_)
 obtain⟨up,now,log,⟨cl,fT,cu⟩,p,bk,S,u⟩:=s
 cases up with
 |false=>cases hc
 |true=>
 rw[hw2,hw] at hc
 have h4:w.2.1<4:=by simpa using hc
 have S1:S.length≤1048576:=Sm.Au
 have I:=ok_srv ok (by omega)
 refine Rt.call (aiT I (EY ok) ⟨sz.2.1.1,by show w.2.1≤3;omega⟩) fun y hy=>?_
 obtain⟨⟨S',h1,h2⟩,h3,h5⟩:=hy
 refine Rt.ok ⟨?_,h3,h5⟩
 rw[h2]
 have:fT.length≤8:=C
 exact⟨⟨Sm.log,Sm.cat,Sm.items,Sm.G7,Sm.bks,by show S'.length≤_;omega⟩,by show fT.length≤_;omega,by have:log.length≤9000:=Gi ok;show log.length≤_;omega⟩
end Pl
