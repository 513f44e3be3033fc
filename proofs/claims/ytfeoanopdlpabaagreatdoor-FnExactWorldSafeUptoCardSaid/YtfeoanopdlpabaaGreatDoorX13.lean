import Derived.Test.YtfeoanopdlpabaaGreatDoorX12
import Derived.KernelRfl
import Derived.Lib.LaidTab
import Derived.WalkKit
import Derived.BigCall
import Derived.Lib.AtoiErrMem
open Go Go.Ab Go.Proofs
namespace Go.Proofs.BG
noncomputable section
def Io (w:World)(g:Nat):Prop:=∃ev,w.cell? ⟨g,0,none⟩=some ev∧(ev = .nilIface∨∃te pe,ev = .iface te pe)
theorem YH {w w':World}{I I':Nat→Prop}{g:Nat}(ha:bD I I' w w')(hI:I g)(h:Io w g):Io w' g:=by
 obtain⟨ev,h1,h2⟩:=h
 exact⟨ev,by rw[ha.cell hI];exact h1,h2⟩
theorem ac6 {P:Program}{w w':World}{I I':Nat→Prop}{g:Nat}{name:String}{k:IntKind}{zs:List Int}(hg:P.globalNamed name=some g)(ha:bD I I' w w')(hI:I g)(h:Lib.TabIs P w name k zs):Lib.TabIs P w' name k zs:=by
 unfold Lib.TabIs World.var? at *
 rw[hg] at h ⊢
 simp only[Option.bind_some] at h ⊢
 rw[ha.same g hI]
 exact h
theorem N2:Tryz.prog.globalNamed "loop.example/wellhead/impl.shaStep" = some 1:=by kernel_rfl
theorem N1:Tryz.prog.globalNamed "internal/strconv.uint64pow10" = some 4:=by kernel_rfl
def Gb:gC where
 ok w I:=(I 0∧I 1∧I 2∧I 3∧I 4)∧(∃m,w.cell? ⟨0,0,none⟩=some (.int .i64 m))∧Lib.TabIs Tryz.prog w "loop.example/wellhead/impl.shaStep" .u32 Wh.B_∧Io w 2∧Io w 3 ∧
  Lib.TabIs Tryz.prog w "internal/strconv.uint64pow10" .u64 Lib.pow10Tab
 mono ha h:=by
  obtain⟨⟨i0,i1,i2,i3,i4⟩,⟨m,h0⟩,h1,h2,h3,h4⟩:=h
  exact⟨⟨ha.sub _ i0,ha.sub _ i1,ha.sub _ i2,ha.sub _ i3,ha.sub _ i4⟩,⟨m,by rw[ha.cell i0];exact h0⟩,ac6 N2 ha i1 h1,YH ha i2 h2,YH ha i3 h3,ac6 N1 ha i4 h4⟩
def Gl:List (Nat×DV):=[(1,⟨.arr 64 (.int .u32),Wh.B_⟩)]
theorem Xg {w:World}{I:Nat→Prop}(k:IntKind):∀zs:List Int,aR (aa w I (.int k)) zs (zs.map (Value.int k))
 | []=>rfl
 |z::zs=>⟨[.int k z],_,rfl,rfl,Xg k zs⟩
theorem gl_ok:∀g d,find Gl g=some d→∀w I,Gb.ok w I→aa w I (.ref d.t) d.x [.pointer (some ⟨g,0,none⟩)]:=by
 intro g d hf w I h
 simp only[Gl,aG] at hf
 split at hf
 ·rename_i e
  cases hf
  subst e
  obtain⟨⟨_,i1,_⟩,_,h1,_⟩:=h
  unfold Lib.TabIs World.var? at h1
  rw[N2] at h1
  simp only[Option.bind_some] at h1
  have hc:∀j,w.cell? ⟨1,0+j,none⟩=(Wh.B_.map (Value.int .u32))[j]? :=by
   intro j
   unfold World.cell?
   simp only
   split at h1
   ·rename_i cs e fr hh
    cases h1
    rw[hh]
    simp
   ·cases h1
  simp only[aa]
  exact⟨1,0,rfl,i1,by decide,_,by rfl,fun j _=>hc j,rfl,Xg (w:=w) (I:=I) .u32 _⟩
 ·cases hf
def H9:iq:=⟨158,[.v (.int .i64)],[.v .str],Wh.strconv_Itoa,Wh.tJ⟩
def JE:iq:=⟨156,[.v .str,.v .str],[.v .str,.v .str,.v .bool],Wh.strings_Cut,Wh.tK⟩
def Lq:iq:=⟨322,[.v (.int .u64)],[.v (.int .i64)],Wh.bits_Len,Wh.qX⟩
def I5:iq:=⟨157,[.v .str],[.v (.int .i64),.v .bool],Wh.rV,Wh.rW⟩
theorem adp (w:World)(n:Nat):RowKit.Below w.heap.size w (w.drewN n):=⟨rfl,rfl,rfl,Nat.le_refl _,fun _ _=>rfl⟩
theorem Xl (w:World)(n:Nat)(os:Array Obj):RowKit.Below w.heap.size w (Sort.grow (w.drewN n) os):=by
 refine⟨rfl,rfl,rfl,?_,fun k hk=>?_⟩
 ·simp[Sort.grow,World.drewN]
 ·simp[Sort.grow,World.drewN,Array.getElem?_append,hk]
theorem ahi:ConOk Tryz.prog Gb H9:=by
 intro(n:Int) y hy ok
 change (bif decide (-9223372036854775808≤n)&&decide (n≤9223372036854775807) then some (Lib.itoa n,()) else none)=some y at hy
 obtain⟨h1,h2⟩:=aQ hy
 simp only[Bool.and_eq_true,decide_eq_true_eq] at h1
 cases h2
 refine Holds.lit (vs:=[.int .i64 n]) (os:=[.string ⟨(Lib.itoa n).toArray⟩]) rfl rfl fun w I _ hG=>?_
 refine(Tryz.strconv_Itoa n h1.1 h1.2 w hG.2.2.2.2.2).mono fun e w' h=>?_
 obtain⟨he,k,os,hw⟩:=h
 subst hw
 exact⟨he,Xl w k os⟩
theorem ahj:ConOk Tryz.prog Gb JE:=by
 rintro⟨s,sep⟩ y hy ok
 change (bif decide (List.length (α:=UInt8) s<4294967281) then some (Lib.cut s sep,()) else none)=some y at hy
 obtain⟨h1,h2⟩:=aQ hy
 simp only[decide_eq_true_eq] at h1
 cases h2
 refine Holds.lit (vs:=[.string ⟨List.toArray (α:=UInt8) s⟩,.string ⟨List.toArray (α:=UInt8) sep⟩]) (os:=[.string ⟨(Lib.cut s sep).1.toArray⟩,.string ⟨(Lib.cut s sep).2.1.toArray⟩,.bool (Lib.cut s sep).2.2]) rfl rfl fun w I _ hG=>?_
 obtain⟨m,hm⟩:=hG.2.1
 refine(Tryz.strings_Cut ⟨List.toArray (α:=UInt8) s⟩ ⟨List.toArray (α:=UInt8) sep⟩ m w (by simpa[ByteArray.size] using h1) hm).mono fun e w' h=>?_
 obtain⟨he,k,hw⟩:=h
 subst hw
 exact⟨he,adp w k⟩
theorem afW:ConOk Tryz.prog Gb Lq:=by
 intro(n:Int) y hy ok
 change (bif decide (0≤n)&&decide (n≤18446744073709551615) then some ((Lib.bitLen n.toNat:Int),()) else none)=some y at hy
 obtain⟨h1,h2⟩:=aQ hy
 simp only[Bool.and_eq_true,decide_eq_true_eq] at h1
 cases h2
 refine Holds.lit (vs:=[.int .u64 n]) (os:=[.int .i64 (Lib.bitLen n.toNat)]) rfl rfl fun w I _ hG=>?_
 refine(Tryz.bits_Len n w h1.1 h1.2).mono fun e w' h=>?_
 obtain⟨he,hw⟩:=h
 subst hw
 exact⟨he,RowKit.Below.refl _ _⟩
theorem Xj {l:List UInt8}{v:Int}(h:Lib.atoiAll l = .ok v)(h0:0≤v)(hl:l.length≤6)(he:Lib.itoa v=l):Pl.isNum l∧(Pl.er l:Int)=v:=by
 have e:Lib.itoa v=Lib.decDigits v.toNat:=by unfold Lib.itoa;rw[if_neg (by omega)]
 rw[e] at he
 subst he
 refine⟨⟨Pl.uB _,hl⟩,?_⟩
 rw[Pl.ru]
 omega
theorem afU {l:List UInt8}{v:Int}(h:Lib.atoiAll l = .ok v):Pl.isNum l↔(0≤v∧l.length≤6∧Lib.itoa v=l):=by
 constructor
 ·intro hn
  have h1:=Pl.Xi hn
  rw[h] at h1
  cases h1
  refine⟨by omega,hn.2,?_⟩
  unfold Lib.itoa
  rw[if_neg (by omega)]
  simp only[Int.toNat_natCast]
  exact Pl.adt l hn.1
 ·rintro⟨h0,h1,h2⟩
  exact(Xj h h0 h1 h2).1
theorem Xk (s:ByteArray):s.toList=s.data.toList:=Go.ByteArray.toList_eq s
theorem Z_ {l:List UInt8}(h:∀v,Lib.atoiAll l ≠ .ok v):¬Pl.isNum l:=fun hn=>h _ (Pl.Xi hn)
set_option maxRecDepth 100000 in
theorem afV (s:ByteArray)(hlim:s.size≤281474976710656)(w:World)(I:Nat→Prop)(hI:∀B,I B→B<w.heap.size)(hG:Gb.ok w I) :
  Calls Tryz.prog 157 #[.string s] w fun e w'=>e = .returned (.tuple #[.int .i64 (if Pl.isNum s.data.toList then(Pl.er s.data.toList:Int) else 0),.bool (decide (Pl.isNum s.data.toList))])∧RowKit.Below w.heap.size w w':=by
 obtain⟨⟨i0,i1,i2,i3,i4⟩,hm,hsha,⟨ev0,hv0,he0⟩,⟨ev1,hv1,he1⟩,htab⟩:=hG
 cases h:Lib.atoiAll s.data.toList with
 |ok v=>
  obtain⟨b0,b1⟩:=Lib.atoiAll_bounds h
  have hc:=afU h
  have htab':∀w',RowKit.Below w.heap.size w w'→Lib.TabIs Tryz.prog w' "internal/strconv.uint64pow10" .u64 Lib.pow10Tab:=by
   intro w' hb
   unfold Lib.TabIs World.var? at *
   rw[N1] at htab ⊢
   simp only[Option.bind_some] at htab ⊢
   rw[hb.block 4 (hI 4 i4)]
   exact htab
  have cE:=Any.strconv_Atoi_ok Tryz.Su s (by omega) v h w
  have Ik:Calls Tryz.prog 261 #[.string s] w fun e w'=>e = .returned (.tuple #[.int .i64 v,.nilIface])∧RowKit.Below w.heap.size w w':=cE.mono fun e w' ⟨h1,h2⟩=>⟨h1,by
   rcases h2 with h2|⟨t,h2⟩
   ·rw[h2];exact RowKit.Below.refl _ _
   ·rw[h2];exact Lib.bytesWorld_below _ _ _⟩
  have hit:∀w',RowKit.Below w.heap.size w w'→Calls Tryz.prog 158 #[.int .i64 v] w' fun e w''=>e = .returned (.string ⟨(Lib.itoa v).toArray⟩)∧RowKit.Below w.heap.size w w'':=fun w' hb=>
   (Tryz.strconv_Itoa v b0 b1 w' (htab' w' hb)).mono fun e w'' ⟨h1,k,os,h2⟩=>⟨h1,by subst h2;exact hb.trans ((Xl w' k os).mono hb.size)⟩
  clear cE htab' htab hsha
  have hlen:s.data.toList.length=s.size:=rfl
  by_cases hn:Pl.isNum s.data.toList
  ·obtain⟨k1,k2,k3⟩:=hc.1 hn
   have hval:(Pl.er s.data.toList:Int)=v:=(Xj h k1 k2 k3).2
   rw[if_pos hn,decide_eq_true hn,hval]
   have H:RowKit.Hid (s.size≤6∧Lib.itoa v=s.toList):=⟨by omega,by rw[k3,Xk]⟩
   clear hc hn k2 k3 hval h hlen
   go_enter Tryz.func157,Tryz.ntmps157
   go_wp2_with (first|(go_at_call 261;refine Ik.mono ?_;rintro e W1 ⟨rfl,cq⟩)|(go_at_call 158;refine(hit _ (by assumption)).mono ?_;rintro e W2 ⟨rfl,bZ⟩))
   all_goals first|(go_ret2;exact⟨rfl,by assumption⟩)|(exfalso;have q:=H.out;simp[q.2] at *;omega)
  ·have H:RowKit.Hid (¬(0≤v∧s.size≤6∧Lib.itoa v=s.toList)):=fun hh=>hn (hc.2 ⟨hh.1,by omega,by rw[hh.2.2,Xk]⟩)
   rw[if_neg hn,decide_eq_false hn]
   clear hc hn h hlen
   go_enter Tryz.func157,Tryz.ntmps157
   go_wp2_with (first|(go_at_call 261;refine Ik.mono ?_;rintro e W1 ⟨rfl,cq⟩)|(go_at_call 158;refine(hit _ (by assumption)).mono ?_;rintro e W2 ⟨rfl,bZ⟩))
   all_goals first|(go_ret2;exact⟨rfl,by assumption⟩)|(exfalso;have q:=H.out;rename_i hx;obtain⟨⟨a1,a2⟩,a3⟩:=hx;exact q ⟨a1,by omega,by simpa using a3⟩)
 |range=>
  have hn:¬Pl.isNum s.data.toList:=Z_ (by intro v hv;rw[h] at hv;cases hv)
  rw[if_neg hn,decide_eq_false hn]
  have cE:=Any.strconv_Atoi_range Tryz.Su s hlim h ev1 w hv1 he1
  have Ik:Calls Tryz.prog 261 #[.string s] w fun e w'=>∃N,e = .returned (.tuple #[.int .i64 (Lib.atoiSat s.data.toList),.iface 372 (.pointer (some ⟨N,0,none⟩))])∧RowKit.Below w.heap.size w w':=cE.mono fun e w' ⟨N,h1,_,_,h2⟩=>⟨N,h1,h2⟩
  clear cE
  go_enter Tryz.func157,Tryz.ntmps157
  go_wp2_with (go_at_call 261;refine Ik.mono ?_;rintro e W1 ⟨N,rfl,cq⟩)
  all_goals (go_ret2;exact⟨rfl,cq⟩)
 |_=>
  have hn:¬Pl.isNum s.data.toList:=Z_ (by intro v hv;rw[h] at hv;cases hv)
  rw[if_neg hn,decide_eq_false hn]
  have cE:=Any.strconv_Atoi_syntax Tryz.Su s hlim h ev0 w hv0 he0
  have Ik:Calls Tryz.prog 261 #[.string s] w fun e w'=>∃N,e = .returned (.tuple #[.int .i64 0,.iface 372 (.pointer (some ⟨N,0,none⟩))])∧RowKit.Below w.heap.size w w':=cE.mono fun e w' ⟨N,h1,_,_,h2⟩=>⟨N,h1,h2⟩
  clear cE
  go_enter Tryz.func157,Tryz.ntmps157
  go_wp2_with (go_at_call 261;refine Ik.mono ?_;rintro e W1 ⟨N,rfl,cq⟩)
  all_goals (go_ret2;exact⟨rfl,cq⟩)
theorem afX:ConOk Tryz.prog Gb I5:=by
 intro(s:List UInt8) y hy ok
 change (bif decide (List.length (α:=UInt8) s≤281474976710656) then some (if Pl.isNum s then((Pl.er s:Int),true) else(0,false),()) else none)=some y at hy
 obtain⟨h1,h2⟩:=aQ hy
 simp only[decide_eq_true_eq] at h1
 cases h2
 have hw:=fun w I hI hG=>afV ⟨List.toArray (α:=UInt8) s⟩ (by simpa[ByteArray.size] using h1) w I hI hG
 by_cases hn:Pl.isNum s
 ·simp only[hn,if_true,decide_true] at hw ⊢
  exact Holds.lit (vs:=[.string ⟨List.toArray (α:=UInt8) s⟩]) (os:=[.int .i64 (Pl.er s:Int),.bool true]) rfl rfl hw
 ·simp only[hn,if_false,decide_false] at hw ⊢
  exact Holds.lit (vs:=[.string ⟨List.toArray (α:=UInt8) s⟩]) (os:=[.int .i64 0,.bool false]) rfl rfl hw
variable {eS:List (Nat×TI)} {dp:Bool} {gl:List (Nat×DV)}
theorem Sg (fns:List (Nat×List Go.Ab.Mode×(List Arg→Option Res)))(h:dD Tryz.prog Gb ⟨eS,fns,dp,gl⟩):dD Tryz.prog Gb ⟨eS,H9.entry::fns,dp,gl⟩:=h.cons H9 (by kernel_rfl) Wh.xL ahi
theorem X_ (fns:List (Nat×List Go.Ab.Mode×(List Arg→Option Res)))(h:dD Tryz.prog Gb ⟨eS,fns,dp,gl⟩):dD Tryz.prog Gb ⟨eS,JE.entry::fns,dp,gl⟩:=h.cons JE (by kernel_rfl) Wh.xM ahj
theorem adZ (fns:List (Nat×List Go.Ab.Mode×(List Arg→Option Res)))(h:dD Tryz.prog Gb ⟨eS,fns,dp,gl⟩):dD Tryz.prog Gb ⟨eS,Lq.entry::fns,dp,gl⟩:=h.cons Lq (by kernel_rfl) Wh.adq afW
theorem XC (fns:List (Nat×List Go.Ab.Mode×(List Arg→Option Res)))(h:dD Tryz.prog Gb ⟨eS,fns,dp,gl⟩):dD Tryz.prog Gb ⟨eS,I5.entry::fns,dp,gl⟩:=h.cons I5 (by kernel_rfl) Wh.xK afX
end
end Go.Proofs.BG
