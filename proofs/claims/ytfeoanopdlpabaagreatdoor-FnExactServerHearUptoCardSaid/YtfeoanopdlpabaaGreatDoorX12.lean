import Derived.Test.YtfeoanopdlpabaaGreatDoorX11
import Derived.KernelRfl
import Derived.Lib.LaidTab
import Derived.WalkKit
import Derived.BigCall
import Derived.Lib.AtoiErrMem
open Go Go.Ab Go.Proofs
namespace Go.Proofs.B4
noncomputable section
def HT (w:World)(g:Nat):Prop:=∃ev,w.cell? ⟨g,0,none⟩=some ev∧(ev = .nilIface∨∃te pe,ev = .iface te pe)
theorem Vi {w w':World}{I I':Nat→Prop}{g:Nat}(ha:bD I I' w w')(hI:I g)(h:HT w g):HT w' g:=by
 obtain⟨ev,h1,h2⟩:=h
 exact⟨ev,by rw[ha.cell hI];exact h1,h2⟩
theorem Zg {P:Program}{w w':World}{I I':Nat→Prop}{g:Nat}{name:String}{k:IntKind}{zs:List Int}(hg:P.globalNamed name=some g)(ha:bD I I' w w')(hI:I g)(h:Lib.TabIs P w name k zs):Lib.TabIs P w' name k zs:=by
 unfold Lib.TabIs World.var? at *
 rw[hg] at h ⊢
 simp only[Option.bind_some] at h ⊢
 rw[ha.same g hI]
 exact h
theorem Lv:Tryz.prog.globalNamed "loop.example/wellhead/impl.shaStep" = some 1:=by kernel_rfl
theorem Lu:Tryz.prog.globalNamed "internal/strconv.uint64pow10" = some 4:=by kernel_rfl
def Gb:gC where
 ok w I:=(I 0∧I 1∧I 2∧I 3∧I 4)∧(∃m,w.cell? ⟨0,0,none⟩=some (.int .i64 m))∧Lib.TabIs Tryz.prog w "loop.example/wellhead/impl.shaStep" .u32 Wh.Cy∧HT w 2∧HT w 3 ∧
  Lib.TabIs Tryz.prog w "internal/strconv.uint64pow10" .u64 Lib.pow10Tab
 mono ha h:=by
  obtain⟨⟨i0,i1,i2,i3,i4⟩,⟨m,h0⟩,h1,h2,h3,h4⟩:=h
  exact⟨⟨ha.sub _ i0,ha.sub _ i1,ha.sub _ i2,ha.sub _ i3,ha.sub _ i4⟩,⟨m,by rw[ha.cell i0];exact h0⟩,Zg Lv ha i1 h1,Vi ha i2 h2,Vi ha i3 h3,Zg Lu ha i4 h4⟩
def Gl:List (Nat×DV):=[(1,⟨.arr 64 (.int .u32),Wh.Cy⟩)]
theorem Ud {w:World}{I:Nat→Prop}(k:IntKind):∀zs:List Int,aR (aa w I (.int k)) zs (zs.map (Value.int k))
 | []=>rfl
 |z::zs=>⟨[.int k z],_,rfl,rfl,Ud k zs⟩
theorem gl_ok:∀g d,find Gl g=some d→∀w I,Gb.ok w I→aa w I (.ref d.t) d.x [.pointer (some ⟨g,0,none⟩)]:=by
 intro g d hf w I h
 simp only[Gl,aG] at hf
 split at hf
 ·rename_i e
  cases hf
  subst e
  obtain⟨⟨_,i1,_⟩,_,h1,_⟩:=h
  unfold Lib.TabIs World.var? at h1
  rw[Lv] at h1
  simp only[Option.bind_some] at h1
  have hc:∀j,w.cell? ⟨1,0+j,none⟩=(Wh.Cy.map (Value.int .u32))[j]? :=by
   intro j
   unfold World.cell?
   simp only
   split at h1
   ·rename_i cs e fr hh
    cases h1
    rw[hh]
    simp
   ·cases h1
  simp only[aa]
  exact⟨1,0,rfl,i1,by decide,_,by rfl,fun j _=>hc j,rfl,Ud (w:=w) (I:=I) .u32 _⟩
 ·cases hf
def Jk:iq:=⟨158,[.v (.int .i64)],[.v .str],Wh.strconv_Itoa,Wh.tJ⟩
def K7:iq:=⟨156,[.v .str,.v .str],[.v .str,.v .str,.v .bool],Wh.strings_Cut,Wh.tK⟩
def Nd:iq:=⟨322,[.v (.int .u64)],[.v (.int .i64)],Wh.bits_Len,Wh.qX⟩
def K3:iq:=⟨157,[.v .str],[.v (.int .i64),.v .bool],Wh.rV,Wh.rW⟩
theorem ZD (w:World)(n:Nat):RowKit.Below w.heap.size w (w.drewN n):=⟨rfl,rfl,rfl,Nat.le_refl _,fun _ _=>rfl⟩
theorem Uh (w:World)(n:Nat)(os:Array Obj):RowKit.Below w.heap.size w (Sort.grow (w.drewN n) os):=by
 refine⟨rfl,rfl,rfl,?_,fun k hk=>?_⟩
 ·simp[Sort.grow,World.drewN]
 ·simp[Sort.grow,World.drewN,Array.getElem?_append,hk]
theorem aci:ConOk Tryz.prog Gb Jk:=by
 intro(n:Int) y hy ok
 change (bif decide (-9223372036854775808≤n)&&decide (n≤9223372036854775807) then some (Lib.itoa n,()) else none)=some y at hy
 obtain⟨h1,h2⟩:=aQ hy
 simp only[Bool.and_eq_true,decide_eq_true_eq] at h1
 cases h2
 refine Holds.lit (vs:=[.int .i64 n]) (os:=[.string ⟨(Lib.itoa n).toArray⟩]) rfl rfl fun w I _ hG=>?_
 refine(Tryz.strconv_Itoa n h1.1 h1.2 w hG.2.2.2.2.2).mono fun e w' h=>?_
 obtain⟨he,k,os,hw⟩:=h
 subst hw
 exact⟨he,Uh w k os⟩
theorem acj:ConOk Tryz.prog Gb K7:=by
 rintro⟨s,sep⟩ y hy ok
 change (bif decide (List.length (α:=UInt8) s<4294967281) then some (Lib.cut s sep,()) else none)=some y at hy
 obtain⟨h1,h2⟩:=aQ hy
 simp only[decide_eq_true_eq] at h1
 cases h2
 refine Holds.lit (vs:=[.string ⟨List.toArray (α:=UInt8) s⟩,.string ⟨List.toArray (α:=UInt8) sep⟩]) (os:=[.string ⟨(Lib.cut s sep).1.toArray⟩,.string ⟨(Lib.cut s sep).2.1.toArray⟩,.bool (Lib.cut s sep).2.2]) rfl rfl fun w I _ hG=>?_
 obtain⟨m,hm⟩:=hG.2.1
 refine(Tryz.strings_Cut ⟨List.toArray (α:=UInt8) s⟩ ⟨List.toArray (α:=UInt8) sep⟩ m w (by simpa[ByteArray.size] using h1) hm).mono fun e w' h=>?_
 obtain⟨he,k,hw⟩:=h
 subst hw
 exact⟨he,ZD w k⟩
theorem acf:ConOk Tryz.prog Gb Nd:=by
 intro(n:Int) y hy ok
 change (bif decide (0≤n)&&decide (n≤18446744073709551615) then some ((Lib.bitLen n.toNat:Int),()) else none)=some y at hy
 obtain⟨h1,h2⟩:=aQ hy
 simp only[Bool.and_eq_true,decide_eq_true_eq] at h1
 cases h2
 refine Holds.lit (vs:=[.int .u64 n]) (os:=[.int .i64 (Lib.bitLen n.toNat)]) rfl rfl fun w I _ hG=>?_
 refine(Tryz.bits_Len n w h1.1 h1.2).mono fun e w' h=>?_
 obtain⟨he,hw⟩:=h
 subst hw
 exact⟨he,RowKit.Below.refl _ _⟩
theorem Uf {l:List UInt8}{v:Int}(h:Lib.atoiAll l = .ok v)(h0:0≤v)(hl:l.length≤6)(he:Lib.itoa v=l):Pl.isNum l∧(Pl.er l:Int)=v:=by
 have e:Lib.itoa v=Lib.decDigits v.toNat:=by unfold Lib.itoa;rw[if_neg (by omega)]
 rw[e] at he
 subst he
 refine⟨⟨Pl.uB _,hl⟩,?_⟩
 rw[Pl.ru]
 omega
theorem acd {l:List UInt8}{v:Int}(h:Lib.atoiAll l = .ok v):Pl.isNum l↔(0≤v∧l.length≤6∧Lib.itoa v=l):=by
 constructor
 ·intro hn
  have h1:=Pl.Ue hn
  rw[h] at h1
  cases h1
  refine⟨by omega,hn.2,?_⟩
  unfold Lib.itoa
  rw[if_neg (by omega)]
  simp only[Int.toNat_natCast]
  exact Pl.ZH l hn.1
 ·rintro⟨h0,h1,h2⟩
  exact(Uf h h0 h1 h2).1
theorem Ug (s:ByteArray):s.toList=s.data.toList:=Go.ByteArray.toList_eq s
theorem WG {l:List UInt8}(h:∀v,Lib.atoiAll l ≠ .ok v):¬Pl.isNum l:=fun hn=>h _ (Pl.Ue hn)
set_option maxRecDepth 100000 in
theorem ace (s:ByteArray)(hlim:s.size≤281474976710656)(w:World)(I:Nat→Prop)(hI:∀B,I B→B<w.heap.size)(hG:Gb.ok w I) :
  Calls Tryz.prog 157 #[.string s] w fun e w'=>e = .returned (.tuple #[.int .i64 (if Pl.isNum s.data.toList then(Pl.er s.data.toList:Int) else 0),.bool (decide (Pl.isNum s.data.toList))])∧RowKit.Below w.heap.size w w':=by
 obtain⟨⟨i0,i1,i2,i3,i4⟩,hm,hsha,⟨ev0,hv0,he0⟩,⟨ev1,hv1,he1⟩,htab⟩:=hG
 cases h:Lib.atoiAll s.data.toList with
 |ok v=>
  obtain⟨b0,b1⟩:=Lib.atoiAll_bounds h
  have hc:=acd h
  have htab':∀w',RowKit.Below w.heap.size w w'→Lib.TabIs Tryz.prog w' "internal/strconv.uint64pow10" .u64 Lib.pow10Tab:=by
   intro w' hb
   unfold Lib.TabIs World.var? at *
   rw[Lu] at htab ⊢
   simp only[Option.bind_some] at htab ⊢
   rw[hb.block 4 (hI 4 i4)]
   exact htab
  have cE:=Any.strconv_Atoi_ok Tryz.NY s (by omega) v h w
  have HQ:Calls Tryz.prog 261 #[.string s] w fun e w'=>e = .returned (.tuple #[.int .i64 v,.nilIface])∧RowKit.Below w.heap.size w w':=cE.mono fun e w' ⟨h1,h2⟩=>⟨h1,by
   rcases h2 with h2|⟨t,h2⟩
   ·rw[h2];exact RowKit.Below.refl _ _
   ·rw[h2];exact Lib.bytesWorld_below _ _ _⟩
  have hit:∀w',RowKit.Below w.heap.size w w'→Calls Tryz.prog 158 #[.int .i64 v] w' fun e w''=>e = .returned (.string ⟨(Lib.itoa v).toArray⟩)∧RowKit.Below w.heap.size w w'':=fun w' hb=>
   (Tryz.strconv_Itoa v b0 b1 w' (htab' w' hb)).mono fun e w'' ⟨h1,k,os,h2⟩=>⟨h1,by subst h2;exact hb.trans ((Uh w' k os).mono hb.size)⟩
  clear cE htab' htab hsha
  have hlen:s.data.toList.length=s.size:=rfl
  by_cases hn:Pl.isNum s.data.toList
  ·obtain⟨k1,k2,k3⟩:=hc.1 hn
   have hval:(Pl.er s.data.toList:Int)=v:=(Uf h k1 k2 k3).2
   rw[if_pos hn,decide_eq_true hn,hval]
   have H:RowKit.Hid (s.size≤6∧Lib.itoa v=s.toList):=⟨by omega,by rw[k3,Ug]⟩
   clear hc hn k2 k3 hval h hlen
   go_enter Tryz.func157,Tryz.ntmps157
   go_wp2_with (first|(go_at_call 261;refine HQ.mono ?_;rintro e W1 ⟨rfl,cq⟩)|(go_at_call 158;refine(hit _ (by assumption)).mono ?_;rintro e W2 ⟨rfl,bZ⟩))
   all_goals first|(go_ret2;exact⟨rfl,by assumption⟩)|(exfalso;have q:=H.out;simp[q.2] at *;omega)
  ·have H:RowKit.Hid (¬(0≤v∧s.size≤6∧Lib.itoa v=s.toList)):=fun hh=>hn (hc.2 ⟨hh.1,by omega,by rw[hh.2.2,Ug]⟩)
   rw[if_neg hn,decide_eq_false hn]
   clear hc hn h hlen
   go_enter Tryz.func157,Tryz.ntmps157
   go_wp2_with (first|(go_at_call 261;refine HQ.mono ?_;rintro e W1 ⟨rfl,cq⟩)|(go_at_call 158;refine(hit _ (by assumption)).mono ?_;rintro e W2 ⟨rfl,bZ⟩))
   all_goals first|(go_ret2;exact⟨rfl,by assumption⟩)|(exfalso;have q:=H.out;rename_i hx;obtain⟨⟨a1,a2⟩,a3⟩:=hx;exact q ⟨a1,by omega,by simpa using a3⟩)
 |range=>
  have hn:¬Pl.isNum s.data.toList:=WG (by intro v hv;rw[h] at hv;cases hv)
  rw[if_neg hn,decide_eq_false hn]
  have cE:=Any.strconv_Atoi_range Tryz.NY s hlim h ev1 w hv1 he1
  have HQ:Calls Tryz.prog 261 #[.string s] w fun e w'=>∃N,e = .returned (.tuple #[.int .i64 (Lib.atoiSat s.data.toList),.iface 372 (.pointer (some ⟨N,0,none⟩))])∧RowKit.Below w.heap.size w w':=cE.mono fun e w' ⟨N,h1,_,_,h2⟩=>⟨N,h1,h2⟩
  clear cE
  go_enter Tryz.func157,Tryz.ntmps157
  go_wp2_with (go_at_call 261;refine HQ.mono ?_;rintro e W1 ⟨N,rfl,cq⟩)
  all_goals (go_ret2;exact⟨rfl,cq⟩)
 |_=>
  have hn:¬Pl.isNum s.data.toList:=WG (by intro v hv;rw[h] at hv;cases hv)
  rw[if_neg hn,decide_eq_false hn]
  have cE:=Any.strconv_Atoi_syntax Tryz.NY s hlim h ev0 w hv0 he0
  have HQ:Calls Tryz.prog 261 #[.string s] w fun e w'=>∃N,e = .returned (.tuple #[.int .i64 0,.iface 372 (.pointer (some ⟨N,0,none⟩))])∧RowKit.Below w.heap.size w w':=cE.mono fun e w' ⟨N,h1,_,_,h2⟩=>⟨N,h1,h2⟩
  clear cE
  go_enter Tryz.func157,Tryz.ntmps157
  go_wp2_with (go_at_call 261;refine HQ.mono ?_;rintro e W1 ⟨N,rfl,cq⟩)
  all_goals (go_ret2;exact⟨rfl,cq⟩)
theorem acg:ConOk Tryz.prog Gb K3:=by
 intro(s:List UInt8) y hy ok
 change (bif decide (List.length (α:=UInt8) s≤281474976710656) then some (if Pl.isNum s then((Pl.er s:Int),true) else(0,false),()) else none)=some y at hy
 obtain⟨h1,h2⟩:=aQ hy
 simp only[decide_eq_true_eq] at h1
 cases h2
 have hw:=fun w I hI hG=>ace ⟨List.toArray (α:=UInt8) s⟩ (by simpa[ByteArray.size] using h1) w I hI hG
 by_cases hn:Pl.isNum s
 ·simp only[hn,if_true,decide_true] at hw ⊢
  exact Holds.lit (vs:=[.string ⟨List.toArray (α:=UInt8) s⟩]) (os:=[.int .i64 (Pl.er s:Int),.bool true]) rfl rfl hw
 ·simp only[hn,if_false,decide_false] at hw ⊢
  exact Holds.lit (vs:=[.string ⟨List.toArray (α:=UInt8) s⟩]) (os:=[.int .i64 0,.bool false]) rfl rfl hw
def Jl:iq:=⟨349,[.v (.lst .str),.v .str],[.v .str],Wh.strings_Join,Wh.MW⟩
theorem afs {w:World}{B o:Nat}{xs:List (List UInt8)}(h:ew w B o 1 (fun(x:List UInt8) vs=>vs = [Value.string ⟨List.toArray (α:=UInt8) x⟩]) xs)(j:Nat)(x:ByteArray)
  (hx:(xs.map fun l=>(⟨List.toArray (α:=UInt8) l⟩:ByteArray))[j]?=some x):w.cell? ⟨B,o+j,none⟩=some (.string x):=by
 rw[List.getElem?_map] at hx
 cases e:xs[j]? with
 |none=>rw[e] at hx;simp at hx
 |some l=>
  rw[e] at hx
  simp only[Option.map_some,Option.some.injEq] at hx
  obtain⟨cs,h1,h2,h3⟩:=h j l e
  have:=h2 0 (by decide)
  subst h3 hx
  simpa using this
theorem ack:ConOk Tryz.prog Gb Jl:=by
 rintro⟨xs,sep⟩ y hy ok
 change (bif decide (List.length (α:=List UInt8) xs≤140737488355328)&&decide ((Lib.join xs sep).length≤281474976710656) then some (Lib.join xs sep,()) else none)=some y at hy
 obtain⟨h1,h2⟩:=aQ hy
 simp only[Bool.and_eq_true,decide_eq_true_eq] at h1
 cases h2
 intro w I vals Bs hI hG ha _ _
 simp only[Jl,gB,PT.arg] at ha
 match vals,ha with
 | [v1,v2],⟨C1,C2,hC,⟨c1,q1,r1⟩,C3,C4,hC2,⟨c2,q2,r2⟩,hC4⟩=>
 simp only[bX,aa] at r1 r2
 obtain⟨r1,a,cap,e1,e2,e3⟩:=r1
 obtain⟨r2,e4⟩:=r2
 subst e1 e4
 have q1:v1 = .slice a (List.length (α:=List UInt8) xs) cap:=q1
 have q2:v2 = .string ⟨List.toArray (α:=UInt8) sep⟩:=q2
 subst q1 q2
 have key:Calls Tryz.prog 349 #[.slice a (List.length (α:=List UInt8) xs) cap,.string ⟨List.toArray (α:=UInt8) sep⟩] w fun e w'=>e = .returned (.string ⟨(Lib.join xs sep).toArray⟩)∧RowKit.Below w.heap.size w w':=by
  rcases e3 with e3|⟨B,off,e3,e4,e5⟩
  ·subst e3
   refine(Tryz.strings_Join_none a cap ⟨List.toArray (α:=UInt8) sep⟩ w).mono fun e w' ⟨h1,h2⟩=>⟨h1,h2▸RowKit.Below.refl _ _⟩
  ·subst e3
   have hm:(xs.map fun l=>(⟨List.toArray (α:=UInt8) l⟩:ByteArray)).map (·.data.toList)=xs:=by
    rw[List.map_map];simp[Function.comp_def]
   have:=Tryz.strings_Join_48 B off cap (xs.map fun l=>(⟨List.toArray (α:=UInt8) l⟩:ByteArray)) ⟨List.toArray (α:=UInt8) sep⟩ w (afs e5) (hI B e4) (by simpa using h1.1) (by simpa using e2) (by rw[hm];exact h1.2)
   rw[hm,List.length_map] at this
   exact this
 refine key.mono fun e w' ⟨he,hb⟩=>?_
 refine⟨.string ⟨(Lib.join xs sep).toArray⟩,I,[],[],he,⟨[.string ⟨(Lib.join xs sep).toArray⟩],rfl,rfl,rfl⟩,rfl,by simp,by simp,⟨fun _ h=>h,fun B hB=>hb.block B (hI B hB)⟩,fun B hB=>⟨Nat.lt_of_lt_of_le (hI B hB) hb.size,.inl hB⟩,fun B hB _=>hb.block B hB,hb.size,hb.os,hb.tape,hb.output⟩
variable {eS:List (Nat×TI)} {dp:Bool} {gl:List (Nat×DV)}
theorem Jv (fns:List (Nat×List Go.Ab.Mode×(List Arg→Option Res)))(h:dD Tryz.prog Gb ⟨eS,fns,dp,gl⟩):dD Tryz.prog Gb ⟨eS,Jk.entry::fns,dp,gl⟩:=h.cons Jk (by kernel_rfl) Wh.xL aci
theorem US (fns:List (Nat×List Go.Ab.Mode×(List Arg→Option Res)))(h:dD Tryz.prog Gb ⟨eS,fns,dp,gl⟩):dD Tryz.prog Gb ⟨eS,K7.entry::fns,dp,gl⟩:=h.cons K7 (by kernel_rfl) Wh.xM acj
theorem Uv (fns:List (Nat×List Go.Ab.Mode×(List Arg→Option Res)))(h:dD Tryz.prog Gb ⟨eS,fns,dp,gl⟩):dD Tryz.prog Gb ⟨eS,Nd.entry::fns,dp,gl⟩:=h.cons Nd (by kernel_rfl) Wh.ZE acf
theorem Uw (fns:List (Nat×List Go.Ab.Mode×(List Arg→Option Res)))(h:dD Tryz.prog Gb ⟨eS,fns,dp,gl⟩):dD Tryz.prog Gb ⟨eS,K3.entry::fns,dp,gl⟩:=h.cons K3 (by kernel_rfl) Wh.xK acg
theorem aa1 (fns:List (Nat×List Go.Ab.Mode×(List Arg→Option Res)))(h:dD Tryz.prog Gb ⟨eS,fns,dp,gl⟩):dD Tryz.prog Gb ⟨eS,Jl.entry::fns,dp,gl⟩:=h.cons Jl (by kernel_rfl) Wh.RM ack
end
end Go.Proofs.B4
