import Derived.Test.YtfeoanopdlpabaaGreatDoorX11
import Derived.KernelRfl
import Derived.Lib.LaidTab
import Derived.WalkKit
import Derived.BigCall
import Derived.Lib.AtoiErrMem
set_option linter.defProp false
namespace Wh
end Wh
open Wh
open Go Go.Ab Go.Proofs
namespace Go.Proofs.EC
noncomputable section
def LW (w:World)(g:Nat):Prop:=∃ev,w.cell? ⟨g,0,none⟩=some ev∧(ev = .nilIface∨∃te pe,ev = .iface te pe)
def Zy {w w':World}{I I':Nat→Prop}{g:Nat}(ha:bN I I' w w')(hI:I g)(h:LW w g):LW w' g:=by
 obtain⟨ev,h1,h2⟩:=h
 exact⟨ev,by rw[ha.cell hI];exact h1,h2⟩
def adu {P:Program}{w w':World}{I I':Nat→Prop}{g:Nat}{name:String}{k:IntKind}{zs:List Int}(hg:P.globalNamed name=some g)(ha:bN I I' w w')(hI:I g)(h:Lib.TabIs P w name k zs):Lib.TabIs P w' name k zs:=by
 unfold Lib.TabIs World.var? at *
 rw[hg] at h ⊢
 simp only[pF] at h ⊢
 rw[ha.same g hI]
 exact h
def PW:Tryz.prog.globalNamed "loop.example/wellhead/impl.shaStep" = some 1:=by kernel_rfl
def PV:Tryz.prog.globalNamed "internal/strconv.uint64pow10" = some 4:=by kernel_rfl
def Gb:jG where
 ok w I:=(I 0∧I 1∧I 2∧I 3∧I 4)∧(∃m,w.cell? ⟨0,0,none⟩=some (.int .i64 m))∧Lib.TabIs Tryz.prog w "loop.example/wellhead/impl.shaStep" .u32 Fj∧LW w 2∧LW w 3 ∧
  Lib.TabIs Tryz.prog w "internal/strconv.uint64pow10" .u64 Lib.pow10Tab
 mono ha h:=by
  obtain⟨⟨i0,i1,i2,i3,i4⟩,⟨m,h0⟩,h1,h2,h3,h4⟩:=h
  exact⟨⟨ha.sub _ i0,ha.sub _ i1,ha.sub _ i2,ha.sub _ i3,ha.sub _ i4⟩,⟨m,by rw[ha.cell i0];exact h0⟩,adu PW ha i1 h1,Zy ha i2 h2,Zy ha i3 h3,adu PV ha i4 h4⟩
def Gl:List (Nat×DV):=[(1,⟨.arr 64 (.int .u32),Fj⟩)]
def X3 {w:World}{I:Nat→Prop}(k:IntKind):∀zs:List Int,aR (af w I (.int k)) zs (zs.map (Value.int k))
 | []=>rfl
 |z::zs=>⟨[.int k z],_,rfl,rfl,X3 k zs⟩
def gl_ok:∀g d,find Gl g=some d→∀w I,Gb.ok w I→af w I (.ref d.t) d.x [.pointer (some ⟨g,0,none⟩)]:=by
 intro g d hf w I h
 simp only[Gl,aI] at hf
 split at hf
 ·rename_i e
  cases hf
  subst e
  obtain⟨⟨_,i1,_⟩,_,h1,_⟩:=h
  unfold Lib.TabIs World.var? at h1
  rw[PW] at h1
  simp only[pF] at h1
  have hc:∀j,w.cell? ⟨1,0+j,none⟩=(Fj.map (Value.int .u32))[j]? :=by
   intro j
   unfold World.cell?
   simp only
   split at h1
   ·rename_i cs e fr hh
    cases h1
    rw[hh]
    simp
   ·cases h1
  simp only[af]
  exact⟨1,0,rfl,i1,by decide,_,by rfl,fun j _=>hc j,rfl,X3 (w:=w) (I:=I) .u32 _⟩
 ·cases hf
def Rr:jW:=⟨158,[.v (.int .i64)],[.v .str],Wh.strconv_Itoa,zog Wh.strconv_Itoa⟩
def Rs:jW:=⟨156,[.v .str,.v .str],[.v .str,.v .str,.v .bool],Wh.strings_Cut,zog Wh.strings_Cut⟩
def Ro:jW:=⟨322,[.v (.int .u64)],[.v (.int .i64)],Wh.bits_Len,zog Wh.bits_Len⟩
def Rp:jW:=⟨157,[.v .str],[.v (.int .i64),.v .bool],D9,zog D9⟩
def adN (w:World)(n:Nat):RowKit.Below w.heap.size w (w.drewN n):=⟨rfl,rfl,rfl,bw _,fun _ _=>rfl⟩
def X7 (w:World)(n:Nat)(os:Array Obj):RowKit.Below w.heap.size w (Sort.grow (w.drewN n) os):=by
 refine⟨rfl,rfl,rfl,?_,fun k hk=>?_⟩
 ·simp[Sort.grow,World.drewN]
 ·simp[Sort.grow,World.drewN,Array.getElem?_append,hk]
def ahD:ConOk Tryz.prog Gb Rr:=by
 intro(n:Int) y hy ok
 change (bif decide (-9223372036854775808≤n)&&decide (n≤9223372036854775807) then some (Lib.itoa n,()) else none)=some y at hy
 obtain⟨h1,h2⟩:=aH hy
 simp only[aF,gQ] at h1
 cases h2
 refine Holds.lit (vs:=[.int .i64 n]) (os:=[.string ⟨(Lib.itoa n).toArray⟩]) rfl rfl fun w I _ hG=>?_
 refine(Tryz.strconv_Itoa n h1.1 h1.2 w hG.2.2.2.2.2).mono fun e w' h=>?_
 obtain⟨he,k,os,hw⟩:=h
 subst hw
 exact⟨he,X7 w k os⟩
def ahE:ConOk Tryz.prog Gb Rs:=by
 rintro⟨s,sep⟩ y hy ok
 change (bif decide (List.length (α:=UInt8) s<4294967281) then some (Lib.cut s sep,()) else none)=some y at hy
 obtain⟨h1,h2⟩:=aH hy
 simp only[gQ] at h1
 cases h2
 refine Holds.lit (vs:=[.string ⟨List.toArray (α:=UInt8) s⟩,.string ⟨List.toArray (α:=UInt8) sep⟩]) (os:=[.string ⟨(Lib.cut s sep).1.toArray⟩,.string ⟨(Lib.cut s sep).2.1.toArray⟩,.bool (Lib.cut s sep).2.2]) rfl rfl fun w I _ hG=>?_
 obtain⟨m,hm⟩:=hG.2.1
 refine(Tryz.strings_Cut ⟨List.toArray (α:=UInt8) s⟩ ⟨List.toArray (α:=UInt8) sep⟩ m w (by simpa[ByteArray.size] using h1) hm).mono fun e w' h=>?_
 obtain⟨he,k,hw⟩:=h
 subst hw
 exact⟨he,adN w k⟩
def ahz:ConOk Tryz.prog Gb Ro:=by
 intro(n:Int) y hy ok
 change (bif decide (0≤n)&&decide (n≤18446744073709551615) then some ((Lib.bitLen n.toNat:Int),()) else none)=some y at hy
 obtain⟨h1,h2⟩:=aH hy
 simp only[aF,gQ] at h1
 cases h2
 refine Holds.lit (vs:=[.int .u64 n]) (os:=[.int .i64 (Lib.bitLen n.toNat)]) rfl rfl fun w I _ hG=>?_
 refine(Tryz.bits_Len n w h1.1 h1.2).mono fun e w' h=>?_
 obtain⟨he,hw⟩:=h
 subst hw
 exact⟨he,RowKit.Below.refl _ _⟩
def X5 {l:List UInt8}{v:Int}(h:Lib.atoiAll l = .ok v)(h0:0≤v)(hl:l.length≤6)(he:Lib.itoa v=l):Pl.isNum l∧(Pl.ov l:Int)=v:=by
 have e:Lib.itoa v=Lib.decDigits v.toNat:=by unfold Lib.itoa;rw[bY (by omega)]
 rw[e] at he
 subst he
 refine⟨⟨Pl.Yl _,hl⟩,?_⟩
 rw[Pl.HT]
 omega
def ahu {l:List UInt8}{v:Int}(h:Lib.atoiAll l = .ok v):Pl.isNum l↔(0≤v∧l.length≤6∧Lib.itoa v=l):=by
 constructor
 ·intro hn
  have h1:=Pl.X4 hn
  rw[h] at h1
  cases h1
  refine⟨by omega,hn.2,?_⟩
  unfold Lib.itoa
  rw[bY (by omega)]
  simp only[zl94]
  exact Pl.adR l hn.1
 ·rintro⟨h0,h1,h2⟩
  exact(X5 h h0 h1 h2).1
def X6 (s:ByteArray):s.toList=s.data.toList:=Go.ByteArray.toList_eq s
def aaF {l:List UInt8}(h:∀v,Lib.atoiAll l ≠ .ok v):¬Pl.isNum l:=fun hn=>h _ (Pl.X4 hn)
set_option maxRecDepth 100000 in
def ahv (s:ByteArray)(hlim:s.size≤281474976710656)(w:World)(I:Nat→Prop)(hI:∀B,I B→B<w.heap.size)(hG:Gb.ok w I) :
  Calls Tryz.prog 157 #[.string s] w fun e w'=>e = .returned (.tuple #[.int .i64 (if Pl.isNum s.data.toList then(Pl.ov s.data.toList:Int) else 0),.bool (decide (Pl.isNum s.data.toList))])∧RowKit.Below w.heap.size w w':=by
 obtain⟨⟨i0,i1,i2,i3,i4⟩,hm,hsha,⟨ev0,hv0,he0⟩,⟨ev1,hv1,he1⟩,htab⟩:=hG
 cases h:Lib.atoiAll s.data.toList with
 |ok v=>
  obtain⟨b0,b1⟩:=Lib.atoiAll_bounds h
  have hc:=ahu h
  have htab':∀w',RowKit.Below w.heap.size w w'→Lib.TabIs Tryz.prog w' "internal/strconv.uint64pow10" .u64 Lib.pow10Tab:=by
   intro w' hb
   unfold Lib.TabIs World.var? at *
   rw[PV] at htab ⊢
   simp only[pF] at htab ⊢
   rw[hb.block 4 (hI 4 i4)]
   exact htab
  have dh:=Any.strconv_Atoi_ok Tryz.Sq s (by omega) v h w
  have LQ:Calls Tryz.prog 261 #[.string s] w fun e w'=>e = .returned (.tuple #[.int .i64 v,.nilIface])∧RowKit.Below w.heap.size w w':=dh.mono fun e w' ⟨h1,h2⟩=>⟨h1,by
   rcases h2 with h2|⟨t,h2⟩
   ·rw[h2];exact RowKit.Below.refl _ _
   ·rw[h2];exact Lib.bytesWorld_below _ _ _⟩
  have hit:∀w',RowKit.Below w.heap.size w w'→Calls Tryz.prog 158 #[.int .i64 v] w' fun e w''=>e = .returned (.string ⟨(Lib.itoa v).toArray⟩)∧RowKit.Below w.heap.size w w'':=fun w' hb=>
   (Tryz.strconv_Itoa v b0 b1 w' (htab' w' hb)).mono fun e w'' ⟨h1,k,os,h2⟩=>⟨h1,by subst h2;exact hb.trans ((X7 w' k os).mono hb.size)⟩
  clear dh htab' htab hsha
  have hlen:s.data.toList.length=s.size:=rfl
  by_cases hn:Pl.isNum s.data.toList
  ·obtain⟨k1,k2,k3⟩:=hc.1 hn
   have hval:(Pl.ov s.data.toList:Int)=v:=(X5 h k1 k2 k3).2
   rw[bf hn,zl86 hn,hval]
   have H:RowKit.Hid (s.size≤6∧Lib.itoa v=s.toList):=⟨by omega,by rw[k3,X6]⟩
   clear hc hn k2 k3 hval h hlen
   go_enter Tryz.func157,Tryz.ntmps157
   go_wp2_with (first|(go_at_call 261;refine LQ.mono ?_;rintro e W1 ⟨rfl,cV⟩)|(go_at_call 158;refine(hit _ (by assumption)).mono ?_;rintro e W2 ⟨rfl,cH⟩))
   all_goals first|(go_ret2;exact⟨rfl,by assumption⟩)|(exfalso;have q:=H.out;simp[q.2] at *;omega)
  ·have H:RowKit.Hid (¬(0≤v∧s.size≤6∧Lib.itoa v=s.toList)):=fun hh=>hn (hc.2 ⟨hh.1,by omega,by rw[hh.2.2,X6]⟩)
   rw[bY hn,zl90 hn]
   clear hc hn h hlen
   go_enter Tryz.func157,Tryz.ntmps157
   go_wp2_with (first|(go_at_call 261;refine LQ.mono ?_;rintro e W1 ⟨rfl,cV⟩)|(go_at_call 158;refine(hit _ (by assumption)).mono ?_;rintro e W2 ⟨rfl,cH⟩))
   all_goals first|(go_ret2;exact⟨rfl,by assumption⟩)|(exfalso;have q:=H.out;rename_i hx;obtain⟨⟨a1,a2⟩,a3⟩:=hx;exact q ⟨a1,by omega,by simpa using a3⟩)
 |range=>
  have hn:¬Pl.isNum s.data.toList:=aaF (by intro v hv;rw[h] at hv;cases hv)
  rw[bY hn,zl90 hn]
  have dh:=Any.strconv_Atoi_range Tryz.Sq s hlim h ev1 w hv1 he1
  have LQ:Calls Tryz.prog 261 #[.string s] w fun e w'=>∃N,e = .returned (.tuple #[.int .i64 (Lib.atoiSat s.data.toList),.iface 372 (.pointer (some ⟨N,0,none⟩))])∧RowKit.Below w.heap.size w w':=dh.mono fun e w' ⟨N,h1,_,_,h2⟩=>⟨N,h1,h2⟩
  clear dh
  go_enter Tryz.func157,Tryz.ntmps157
  go_wp2_with (go_at_call 261;refine LQ.mono ?_;rintro e W1 ⟨N,rfl,cV⟩)
  all_goals (go_ret2;exact⟨rfl,cV⟩)
 |_=>
  have hn:¬Pl.isNum s.data.toList:=aaF (by intro v hv;rw[h] at hv;cases hv)
  rw[bY hn,zl90 hn]
  have dh:=Any.strconv_Atoi_syntax Tryz.Sq s hlim h ev0 w hv0 he0
  have LQ:Calls Tryz.prog 261 #[.string s] w fun e w'=>∃N,e = .returned (.tuple #[.int .i64 0,.iface 372 (.pointer (some ⟨N,0,none⟩))])∧RowKit.Below w.heap.size w w':=dh.mono fun e w' ⟨N,h1,_,_,h2⟩=>⟨N,h1,h2⟩
  clear dh
  go_enter Tryz.func157,Tryz.ntmps157
  go_wp2_with (go_at_call 261;refine LQ.mono ?_;rintro e W1 ⟨N,rfl,cV⟩)
  all_goals (go_ret2;exact⟨rfl,cV⟩)
def ahA:ConOk Tryz.prog Gb Rp:=by
 intro(s:List UInt8) y hy ok
 change (bif decide (List.length (α:=UInt8) s≤281474976710656) then some (if Pl.isNum s then((Pl.ov s:Int),true) else(0,false),()) else none)=some y at hy
 obtain⟨h1,h2⟩:=aH hy
 simp only[gQ] at h1
 cases h2
 have hw:=fun w I hI hG=>ahv ⟨List.toArray (α:=UInt8) s⟩ (by simpa[ByteArray.size] using h1) w I hI hG
 by_cases hn:Pl.isNum s
 ·simp only[hn,cj,zl73] at hw ⊢
  exact Holds.lit (vs:=[.string ⟨List.toArray (α:=UInt8) s⟩]) (os:=[.int .i64 (Pl.ov s:Int),.bool true]) rfl rfl hw
 ·simp only[hn,bI,pI] at hw ⊢
  exact Holds.lit (vs:=[.string ⟨List.toArray (α:=UInt8) s⟩]) (os:=[.int .i64 0,.bool false]) rfl rfl hw
def Pj:jW:=⟨254,[.m (.int .i64)],[],Wh.slices_Sort_int,zog Wh.slices_Sort_int⟩
def ajO {w:World}{I:Nat→Prop}{B o:Nat}{xs:List Int}(h:fV w B o 1 (af w I (.int .i64)) xs)(j:Nat)(hj:j<xs.length):w.cell? ⟨B,o+j,none⟩=some (.int .i64 xs[j]):=by
 obtain⟨cs,h1,h2,h3⟩:=h j xs[j] (pG hj)
 have:=h2 0 (by decide)
 simp only[af] at h3
 subst h3
 simpa using this
def adS {w:World}{B:Nat}{cs:List Value}(h:Cells w B cs)(enc:Int→Value)(off:Nat)(d:Array Int) :
  ∃cs',Cells (Sort.putRow enc w B off d) B cs'∧cs'.length=cs.length:=by
 obtain⟨e,fr,h,hf⟩:=h
 refine⟨(Sort.putCells enc off d cs.toArray).toList,⟨e,fr,?_,?_⟩,?_⟩
 ·simp[Sort.putRow,Sort.mapBlock,Array.getElem?_modify,h,Sort.onCells]
 ·intro j hj
  exact hf j (by simpa[Sort.putCells] using hj)
 ·simp[Sort.putCells]
def ahC:ConOk Tryz.prog Gb Pj:=by
 intro(xs:List Int) y hy ok
 change (bif decide (List.length (α:=Int) xs<4611686018427387904) then some ((),List.mergeSort (α:=Int) xs (fun a b=>decide (a≤b)),()) else none)=some y at hy
 obtain⟨h1,h2⟩:=aH hy
 simp only[gQ] at h1
 cases h2
 intro w I vals Bs hI hG ha hnd cY
 simp only[Pj,iY,PT.arg] at ha
 match vals,ha with
 | [v1],⟨C1,C2,hC,r1,hC2⟩=>
 simp only[mO] at hC2
 simp only[ArgO,cF] at r1
 obtain⟨a,cap,e1,e2,e3⟩:=r1
 subst hC2
 simp only[jV] at hC
 subst hC
 have e1:v1 = .slice a (List.length (α:=Int) xs) cap:=by simpa using e1
 subst e1
 have hlen:(List.mergeSort (α:=Int) xs (fun a b=>decide (a≤b))).length=List.length (α:=Int) xs:=List.length_mergeSort xs
 rcases e3 with⟨e3,e4,e5⟩|⟨B,o,cs,e3,e4,e5,e6,e7,e8⟩
 ·subst e3 e4 e5
  have hx:xs = []:=List.eq_nil_of_length_eq_zero (by omega)
  subst hx
  refine(Tryz.slices_Sort_int_none none 0 w).mono fun e w' ⟨he,hw⟩=>?_
  subst hw
  refine⟨.tuple #[],I,[],[],he,⟨#[],rfl,rfl⟩,?_,by simp,by simp,⟨fun _ h=>h,fun _ _=>rfl⟩,fun B hB=>⟨hI B hB,.inl hB⟩,fun _ _ _=>rfl,bw _,rfl,rfl,rfl⟩
  refine⟨[],[],[],?_,rfl,⟨none,0,rfl,by simp,.inl ⟨rfl,rfl,rfl⟩⟩,rfl,by simp,rfl⟩
  simp[]
 ·subst e3 e8
  have hB:B<w.heap.size:=e4.lt
  have hsz:(Ty.int IntKind.i64).size=1:=rfl
  rw[hsz] at e5 e6
  have e6:fV w B o 1 (af w I (.int .i64)) (α:=Int) xs:=e6
  have hH:Sort.Holds (Value.int .i64) w B o (List.toArray (α:=Int) xs):=by
   intro j hj
   have hj:j<List.length (α:=Int) xs:=by simpa using hj
   refine⟨?_,e4.frozen (by omega)⟩
   rw[ajO e6 j hj]
   congr 2
   rw[getElem!_pos _ _ (by simpa using hj)]
   simp
  refine(Tryz.slices_Sort_int B o cap xs w hH hB h1).mono fun e w' ⟨he,n,os,hw⟩=>?_
  have hgt:∀k,k<w.heap.size→w'.heap[k]?=(Sort.putRow (Value.int .i64) w B o (List.mergeSort (α:=Int) xs (fun a b=>decide (a≤b))).toArray).heap[k]? :=by
   intro k hk
   subst hw
   simp[Sort.grow,Sort.putRow_ahead,Array.getElem?_append,hk]
  have hno:∀k,k<w.heap.size→k≠B→w'.heap[k]?=w.heap[k]? :=by
   intro k hk hne
   rw[hgt k hk]
   simp[Sort.putRow,Sort.mapBlock,Array.getElem?_modify,Ne.symm hne]
  have hsz2:w.heap.size≤w'.heap.size:=by subst hw;simp[Sort.grow,Sort.putRow_ahead]
  obtain⟨cs',k1,k2⟩:=adS e4 (Value.int .i64) o (List.mergeSort (α:=Int) xs (fun a b=>decide (a≤b))).toArray
  have k1':Cells w' B cs':=k1.of_same (hgt B hB)
  have kO:∀k,I k→w'.heap[k]?=w.heap[k]? :=fun k hk=>hno k (hI k hk) fun h=>e7 (h▸hk)
  have hrows:fV w' B o 1 (af w' I (.int .i64)) (α:=Int) (List.mergeSort (α:=Int) xs (fun a b=>decide (a≤b))):=by
   intro i x hx
   obtain⟨hi,hx⟩:=mN.1 hx
   refine⟨[.int .i64 x],rfl,?_,rfl⟩
   intro j hj
   obtain rfl:j=0:=by omega
   have:=Sort.cell?_putRow (Value.int .i64) w B o (List.toArray (α:=Int) xs) (List.mergeSort (α:=Int) xs (fun a b=>decide (a≤b))).toArray hH (by simp) i (by simpa using hi)
   have hc:w'.cell? ⟨B,o+i,none⟩=(Sort.putRow (Value.int .i64) w B o (List.mergeSort (α:=Int) xs (fun a b=>decide (a≤b))).toArray).cell? ⟨B,o+i,none⟩:=by
    unfold World.cell?
    simp only
    rw[hgt B hB]
   simp only[Nat.mul_one,qN,ja]
   rw[hc,this]
   congr 2
   rw[getElem!_pos _ _ (by simpa using hi)]
   simpa using hx
  refine⟨.tuple #[],I,[],[B],he,⟨#[],rfl,rfl⟩,?_,by simp,?_,⟨fun _ h=>h,kO⟩,fun k hk=>⟨Nat.lt_of_lt_of_le (hI k hk) hsz2,.inl hk⟩,?_,hsz2,?_,?_,?_⟩
  ·refine⟨List.mergeSort (α:=Int) xs (fun a b=>decide (a≤b)),[B],[],by simp[],hlen,?_,rfl,?_,rfl⟩
   ·refine⟨some ⟨B,o,none⟩,cap,by rw[hlen],by rw[hlen];exact e2,.inr ⟨B,o,cs',rfl,k1',by rw[k2];rw[hsz];exact e5,hrows,e7,rfl⟩⟩
   ·intro B' bg ds hds
    obtain rfl:B'=B:=by simpa using bg
    obtain rfl:=e4.unique hds
    exact⟨cs',k1',by omega⟩
  ·intro k hk
   obtain rfl:k=B:=by simpa using hk
   exact⟨.inl (by simp),e7⟩
  ·intro k hk hk2
   exact hno k hk (by simpa using hk2)
  ·subst hw;rfl
  ·subst hw;rfl
  ·subst hw;rfl
variable {gB:List (Nat×TI)} {dp:Bool} {gl:List (Nat×DV)}
def R5 (fns:List (Nat×List Go.Ab.Mode×(List Arg→Option Res)))(h:eW Tryz.prog Gb ⟨gB,fns,dp,gl⟩):eW Tryz.prog Gb ⟨gB,Rr.entry::fns,dp,gl⟩:=h.cons Rr (by kernel_rfl) (zv (f:=Wh.strconv_Itoa)) ahD
def Y1 (fns:List (Nat×List Go.Ab.Mode×(List Arg→Option Res)))(h:eW Tryz.prog Gb ⟨gB,fns,dp,gl⟩):eW Tryz.prog Gb ⟨gB,Rs.entry::fns,dp,gl⟩:=h.cons Rs (by kernel_rfl) (zv (f:=Wh.strings_Cut)) ahE
def ael (fns:List (Nat×List Go.Ab.Mode×(List Arg→Option Res)))(h:eW Tryz.prog Gb ⟨gB,fns,dp,gl⟩):eW Tryz.prog Gb ⟨gB,Ro.entry::fns,dp,gl⟩:=h.cons Ro (by kernel_rfl) (zv (f:=Wh.bits_Len)) ahz
def Yv (fns:List (Nat×List Go.Ab.Mode×(List Arg→Option Res)))(h:eW Tryz.prog Gb ⟨gB,fns,dp,gl⟩):eW Tryz.prog Gb ⟨gB,Rp.entry::fns,dp,gl⟩:=h.cons Rp (by kernel_rfl) (zv (f:=D9)) ahA
def Y0 (fns:List (Nat×List Go.Ab.Mode×(List Arg→Option Res)))(h:eW Tryz.prog Gb ⟨gB,fns,dp,gl⟩):eW Tryz.prog Gb ⟨gB,Pj.entry::fns,dp,gl⟩:=h.cons Pj (by kernel_rfl) (zv (f:=Wh.slices_Sort_int)) ahC
end
end Go.Proofs.EC
