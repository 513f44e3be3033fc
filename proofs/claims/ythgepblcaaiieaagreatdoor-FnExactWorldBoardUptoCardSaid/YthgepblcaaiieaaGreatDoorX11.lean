import Derived.Test.YthgepblcaaiieaaGreatDoorX10
import Derived.KernelRfl
import Derived.Lib.LaidTab
import Derived.WalkKit
import Derived.BigCall
import Derived.Lib.AtoiErrMem
set_option linter.defProp false
namespace Wh
end Wh
open Wh
open Go Go.Ab Go.Proofs
namespace Go.Proofs.CY
noncomputable section
def Jq (w:World)(g:Nat):Prop:=∃ev,w.cell? ⟨g,0,none⟩=some ev∧(ev = .nilIface∨∃te pe,ev = .iface te pe)
def X6 {w w':World}{I I':Nat→Prop}{g:Nat}(ha:bN I I' w w')(hI:I g)(h:Jq w g):Jq w' g:=by
 obtain⟨ev,h1,h2⟩:=h
 exact⟨ev,by rw[ha.cell hI];exact h1,h2⟩
def abW {P:Program}{w w':World}{I I':Nat→Prop}{g:Nat}{name:String}{k:IntKind}{zs:List Int}(hg:P.globalNamed name=some g)(ha:bN I I' w w')(hI:I g)(h:Lib.TabIs P w name k zs):Lib.TabIs P w' name k zs:=by
 unfold Lib.TabIs World.var? at *
 rw[hg] at h ⊢
 simp only[pF] at h ⊢
 rw[ha.same g hI]
 exact h
def OD:Tryz.prog.globalNamed "loop.example/wellhead/impl.shaStep" = some 2:=by kernel_rfl
def Sw:Tryz.prog.globalNamed "internal/strconv.uint64pow10" = some 3:=by kernel_rfl
def Gb:jG where
 ok w I:=(I 0∧I 1∧I 2∧I 3∧I 4∧I 5)∧(∃m,w.cell? ⟨1,0,none⟩=some (.int .i64 m))∧Lib.TabIs Tryz.prog w "loop.example/wellhead/impl.shaStep" .u32 C4∧Jq w 4∧Jq w 5 ∧
  Lib.TabIs Tryz.prog w "internal/strconv.uint64pow10" .u64 Lib.pow10Tab∧af w I (.ref (.lst .str)) FV [.pointer (some ⟨0,0,none⟩)]
 mono ha h:=by
  obtain⟨⟨i0,i1,i2,i3,i4,i5⟩,⟨m,h0⟩,h1,h2,h3,h4,h5⟩:=h
  exact⟨⟨ha.sub _ i0,ha.sub _ i1,ha.sub _ i2,ha.sub _ i3,ha.sub _ i4,ha.sub _ i5⟩,⟨m,by rw[ha.cell i1];exact h0⟩,abW OD ha i2 h1,X6 ha i4 h2,X6 ha i5 h3,abW Sw ha i3 h4,h5.mono ha⟩
def Gl:List (Nat×DV):=[(2,⟨.arr 64 (.int .u32),C4⟩),(0,⟨.lst .str,FV⟩)]
def Wx {w:World}{I:Nat→Prop}(k:IntKind):∀zs:List Int,aR (af w I (.int k)) zs (zs.map (Value.int k))
 | []=>rfl
 |z::zs=>⟨[.int k z],_,rfl,rfl,Wx k zs⟩
def gl_ok:∀g d,find Gl g=some d→∀w I,Gb.ok w I→af w I (.ref d.t) d.x [.pointer (some ⟨g,0,none⟩)]:=by
 intro g d hf w I h
 simp only[Gl,aI] at hf
 split at hf
 ·rename_i e
  cases hf
  subst e
  obtain⟨⟨_,_,i1,_⟩,_,h1,_⟩:=h
  unfold Lib.TabIs World.var? at h1
  rw[OD] at h1
  simp only[pF] at h1
  have hc:∀j,w.cell? ⟨2,0+j,none⟩=(C4.map (Value.int .u32))[j]? :=by
   intro j
   unfold World.cell?
   simp only
   split at h1
   ·rename_i cs e fr hh
    cases h1
    rw[hh]
    simp
   ·cases h1
  simp only[af]
  exact⟨2,0,rfl,i1,by decide,_,by rfl,fun j _=>hc j,rfl,Wx (w:=w) (I:=I) .u32 _⟩
 ·split at hf
  ·rename_i e
   cases hf
   subst e
   exact h.2.2.2.2.2.2
  ·cases hf
def Hr:jW:=⟨54,[.v (.int .i64)],[.v .str],Wh.strconv_Itoa,zog Wh.strconv_Itoa⟩
def Kq:jW:=⟨95,[.v .str,.v .str],[.v .str,.v .str,.v .bool],Wh.strings_Cut,zog Wh.strings_Cut⟩
def LW:jW:=⟨194,[.v (.int .u64)],[.v (.int .i64)],Wh.bits_Len,zog Wh.bits_Len⟩
def JX:jW:=⟨96,[.v .str],[.v (.int .i64),.v .bool],B5,zog B5⟩
def acd (w:World)(n:Nat):RowKit.Below w.heap.size w (w.drewN n):=⟨rfl,rfl,rfl,bw _,fun _ _=>rfl⟩
def WD (w:World)(n:Nat)(os:Array Obj):RowKit.Below w.heap.size w (Sort.grow (w.drewN n) os):=by
 refine⟨rfl,rfl,rfl,?_,fun k hk=>?_⟩
 ·simp[Sort.grow,World.drewN]
 ·simp[Sort.grow,World.drewN,Array.getElem?_append,hk]
def agl:ConOk Tryz.prog Gb Hr:=by
 intro(n:Int) y hy ok
 change (bif decide (-9223372036854775808≤n)&&decide (n≤9223372036854775807) then some (Lib.itoa n,()) else none)=some y at hy
 obtain⟨h1,h2⟩:=aH hy
 simp only[aF,gQ] at h1
 cases h2
 refine Holds.lit (vs:=[.int .i64 n]) (os:=[.string ⟨(Lib.itoa n).toArray⟩]) rfl rfl fun w I _ hG=>?_
 refine(Tryz.strconv_Itoa n h1.1 h1.2 w hG.2.2.2.2.2.1).mono fun e w' h=>?_
 obtain⟨he,k,os,hw⟩:=h
 subst hw
 exact⟨he,WD w k os⟩
def agm:ConOk Tryz.prog Gb Kq:=by
 rintro⟨s,sep⟩ y hy ok
 change (bif decide (List.length (α:=UInt8) s<4294967281) then some (Lib.cut s sep,()) else none)=some y at hy
 obtain⟨h1,h2⟩:=aH hy
 simp only[gQ] at h1
 cases h2
 refine Holds.lit (vs:=[.string ⟨List.toArray (α:=UInt8) s⟩,.string ⟨List.toArray (α:=UInt8) sep⟩]) (os:=[.string ⟨(Lib.cut s sep).1.toArray⟩,.string ⟨(Lib.cut s sep).2.1.toArray⟩,.bool (Lib.cut s sep).2.2]) rfl rfl fun w I _ hG=>?_
 obtain⟨m,hm⟩:=hG.2.1
 refine(Tryz.strings_Cut ⟨List.toArray (α:=UInt8) s⟩ ⟨List.toArray (α:=UInt8) sep⟩ m w (by simpa[ByteArray.size] using h1) hm).mono fun e w' h=>?_
 obtain⟨he,k,hw⟩:=h
 subst hw
 exact⟨he,acd w k⟩
def aeX:ConOk Tryz.prog Gb LW:=by
 intro(n:Int) y hy ok
 change (bif decide (0≤n)&&decide (n≤18446744073709551615) then some ((Lib.bitLen n.toNat:Int),()) else none)=some y at hy
 obtain⟨h1,h2⟩:=aH hy
 simp only[aF,gQ] at h1
 cases h2
 refine Holds.lit (vs:=[.int .u64 n]) (os:=[.int .i64 (Lib.bitLen n.toNat)]) rfl rfl fun w I _ hG=>?_
 refine(Tryz.bits_Len n w h1.1 h1.2).mono fun e w' h=>?_
 obtain⟨he,hw⟩:=h
 subst hw
 exact⟨he,RowKit.Below.refl _ _⟩
def WA {l:List UInt8}{v:Int}(h:Lib.atoiAll l = .ok v)(h0:0≤v)(hl:l.length≤6)(he:Lib.itoa v=l):Pl.isNum l∧(Pl.fT l:Int)=v:=by
 have e:Lib.itoa v=Lib.decDigits v.toNat:=by unfold Lib.itoa;rw[bY (by omega)]
 rw[e] at he
 subst he
 refine⟨⟨Pl.WT _,hl⟩,?_⟩
 rw[Pl.FU]
 omega
def aeV {l:List UInt8}{v:Int}(h:Lib.atoiAll l = .ok v):Pl.isNum l↔(0≤v∧l.length≤6∧Lib.itoa v=l):=by
 constructor
 ·intro hn
  have h1:=Pl.Wz hn
  rw[h] at h1
  cases h1
  refine⟨by omega,hn.2,?_⟩
  unfold Lib.itoa
  rw[bY (by omega)]
  simp only[zl94]
  exact Pl.ach l hn.1
 ·rintro⟨h0,h1,h2⟩
  exact(WA h h0 h1 h2).1
def WB (s:ByteArray):s.toList=s.data.toList:=Go.ByteArray.toList_eq s
def ZB {l:List UInt8}(h:∀v,Lib.atoiAll l ≠ .ok v):¬Pl.isNum l:=fun hn=>h _ (Pl.Wz hn)
set_option maxRecDepth 100000 in
def aeW (s:ByteArray)(hlim:s.size≤281474976710656)(w:World)(I:Nat→Prop)(hI:∀B,I B→B<w.heap.size)(hG:Gb.ok w I) :
  Calls Tryz.prog 96 #[.string s] w fun e w'=>e = .returned (.tuple #[.int .i64 (if Pl.isNum s.data.toList then(Pl.fT s.data.toList:Int) else 0),.bool (decide (Pl.isNum s.data.toList))])∧RowKit.Below w.heap.size w w':=by
 obtain⟨⟨i0,i1,i2,i3,i4,i5⟩,hm,hsha,⟨ev0,hv0,he0⟩,⟨ev1,hv1,he1⟩,htab,hnames⟩:=hG
 cases h:Lib.atoiAll s.data.toList with
 |ok v=>
  obtain⟨b0,b1⟩:=Lib.atoiAll_bounds h
  have hc:=aeV h
  have htab':∀w',RowKit.Below w.heap.size w w'→Lib.TabIs Tryz.prog w' "internal/strconv.uint64pow10" .u64 Lib.pow10Tab:=by
   intro w' hb
   unfold Lib.TabIs World.var? at *
   rw[Sw] at htab ⊢
   simp only[pF] at htab ⊢
   rw[hb.block 3 (hI 3 i3)]
   exact htab
  have dh:=Any.strconv_Atoi_ok Tryz.SH s (by omega) v h w
  have Jm:Calls Tryz.prog 128 #[.string s] w fun e w'=>e = .returned (.tuple #[.int .i64 v,.nilIface])∧RowKit.Below w.heap.size w w':=dh.mono fun e w' ⟨h1,h2⟩=>⟨h1,by
   rcases h2 with h2|⟨t,h2⟩
   ·rw[h2];exact RowKit.Below.refl _ _
   ·rw[h2];exact Lib.bytesWorld_below _ _ _⟩
  have hit:∀w',RowKit.Below w.heap.size w w'→Calls Tryz.prog 54 #[.int .i64 v] w' fun e w''=>e = .returned (.string ⟨(Lib.itoa v).toArray⟩)∧RowKit.Below w.heap.size w w'':=fun w' hb=>
   (Tryz.strconv_Itoa v b0 b1 w' (htab' w' hb)).mono fun e w'' ⟨h1,k,os,h2⟩=>⟨h1,by subst h2;exact hb.trans ((WD w' k os).mono hb.size)⟩
  clear dh htab' htab hsha hnames
  have hlen:s.data.toList.length=s.size:=rfl
  by_cases hn:Pl.isNum s.data.toList
  ·obtain⟨k1,k2,k3⟩:=hc.1 hn
   have hval:(Pl.fT s.data.toList:Int)=v:=(WA h k1 k2 k3).2
   rw[bf hn,zl86 hn,hval]
   have H:RowKit.Hid (s.size≤6∧Lib.itoa v=s.toList):=⟨by omega,by rw[k3,WB]⟩
   clear hc hn k2 k3 hval h hlen
   go_enter Tryz.func96,Tryz.ntmps96
   go_wp2_with (first|(go_at_call 128;refine Jm.mono ?_;rintro e W1 ⟨rfl,cV⟩)|(go_at_call 54;refine(hit _ (by assumption)).mono ?_;rintro e W2 ⟨rfl,cH⟩))
   all_goals first|(go_ret2;exact⟨rfl,by assumption⟩)|(exfalso;have q:=H.out;simp[q.2] at *;omega)
  ·have H:RowKit.Hid (¬(0≤v∧s.size≤6∧Lib.itoa v=s.toList)):=fun hh=>hn (hc.2 ⟨hh.1,by omega,by rw[hh.2.2,WB]⟩)
   rw[bY hn,zl90 hn]
   clear hc hn h hlen
   go_enter Tryz.func96,Tryz.ntmps96
   go_wp2_with (first|(go_at_call 128;refine Jm.mono ?_;rintro e W1 ⟨rfl,cV⟩)|(go_at_call 54;refine(hit _ (by assumption)).mono ?_;rintro e W2 ⟨rfl,cH⟩))
   all_goals first|(go_ret2;exact⟨rfl,by assumption⟩)|(exfalso;have q:=H.out;rename_i hx;obtain⟨⟨a1,a2⟩,a3⟩:=hx;exact q ⟨a1,by omega,by simpa using a3⟩)
 |range=>
  have hn:¬Pl.isNum s.data.toList:=ZB (by intro v hv;rw[h] at hv;cases hv)
  rw[bY hn,zl90 hn]
  have dh:=Any.strconv_Atoi_range Tryz.SH s hlim h ev1 w hv1 he1
  have Jm:Calls Tryz.prog 128 #[.string s] w fun e w'=>∃N,e = .returned (.tuple #[.int .i64 (Lib.atoiSat s.data.toList),.iface 240 (.pointer (some ⟨N,0,none⟩))])∧RowKit.Below w.heap.size w w':=dh.mono fun e w' ⟨N,h1,_,_,h2⟩=>⟨N,h1,h2⟩
  clear dh
  go_enter Tryz.func96,Tryz.ntmps96
  go_wp2_with (go_at_call 128;refine Jm.mono ?_;rintro e W1 ⟨N,rfl,cV⟩)
  all_goals (go_ret2;exact⟨rfl,cV⟩)
 |_=>
  have hn:¬Pl.isNum s.data.toList:=ZB (by intro v hv;rw[h] at hv;cases hv)
  rw[bY hn,zl90 hn]
  have dh:=Any.strconv_Atoi_syntax Tryz.SH s hlim h ev0 w hv0 he0
  have Jm:Calls Tryz.prog 128 #[.string s] w fun e w'=>∃N,e = .returned (.tuple #[.int .i64 0,.iface 240 (.pointer (some ⟨N,0,none⟩))])∧RowKit.Below w.heap.size w w':=dh.mono fun e w' ⟨N,h1,_,_,h2⟩=>⟨N,h1,h2⟩
  clear dh
  go_enter Tryz.func96,Tryz.ntmps96
  go_wp2_with (go_at_call 128;refine Jm.mono ?_;rintro e W1 ⟨N,rfl,cV⟩)
  all_goals (go_ret2;exact⟨rfl,cV⟩)
def aeY:ConOk Tryz.prog Gb JX:=by
 intro(s:List UInt8) y hy ok
 change (bif decide (List.length (α:=UInt8) s≤281474976710656) then some (if Pl.isNum s then((Pl.fT s:Int),true) else(0,false),()) else none)=some y at hy
 obtain⟨h1,h2⟩:=aH hy
 simp only[gQ] at h1
 cases h2
 have hw:=fun w I hI hG=>aeW ⟨List.toArray (α:=UInt8) s⟩ (by simpa[ByteArray.size] using h1) w I hI hG
 by_cases hn:Pl.isNum s
 ·simp only[hn,cj,zl73] at hw ⊢
  exact Holds.lit (vs:=[.string ⟨List.toArray (α:=UInt8) s⟩]) (os:=[.int .i64 (Pl.fT s:Int),.bool true]) rfl rfl hw
 ·simp only[hn,bI,pI] at hw ⊢
  exact Holds.lit (vs:=[.string ⟨List.toArray (α:=UInt8) s⟩]) (os:=[.int .i64 0,.bool false]) rfl rfl hw
variable {gB:List (Nat×TI)} {dp:Bool} {gl:List (Nat×DV)}
def OA (fns:List (Nat×List Go.Ab.Mode×(List Arg→Option Res)))(h:eW Tryz.prog Gb ⟨gB,fns,dp,gl⟩):eW Tryz.prog Gb ⟨gB,Hr.entry::fns,dp,gl⟩:=h.cons Hr (by kernel_rfl) (zv (f:=Wh.strconv_Itoa)) agl
def Xv (fns:List (Nat×List Go.Ab.Mode×(List Arg→Option Res)))(h:eW Tryz.prog Gb ⟨gB,fns,dp,gl⟩):eW Tryz.prog Gb ⟨gB,Kq.entry::fns,dp,gl⟩:=h.cons Kq (by kernel_rfl) (zv (f:=Wh.strings_Cut)) agm
def acT (fns:List (Nat×List Go.Ab.Mode×(List Arg→Option Res)))(h:eW Tryz.prog Gb ⟨gB,fns,dp,gl⟩):eW Tryz.prog Gb ⟨gB,LW.entry::fns,dp,gl⟩:=h.cons LW (by kernel_rfl) (zv (f:=Wh.bits_Len)) aeX
def W3 (fns:List (Nat×List Go.Ab.Mode×(List Arg→Option Res)))(h:eW Tryz.prog Gb ⟨gB,fns,dp,gl⟩):eW Tryz.prog Gb ⟨gB,JX.entry::fns,dp,gl⟩:=h.cons JX (by kernel_rfl) (zv (f:=B5)) aeY
end
end Go.Proofs.CY
