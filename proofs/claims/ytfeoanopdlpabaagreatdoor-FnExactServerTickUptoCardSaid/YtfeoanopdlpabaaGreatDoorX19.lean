import Derived.Test.YtfeoanopdlpabaaGreatDoorX15
import Derived.Test.YtfeoanopdlpabaaGreatDoorCards
import Derived.SevenTiedAt
import Derived.KernelRfl
open Go
namespace Go.Proofs.YtfeoanopdlpabaaGreatDoor.fnExactServerTick
theorem go0:((Tryz.prog.funcs.toList.drop 0).take 40).any Func.goes=false:=by kernel_rfl
theorem go1:((Tryz.prog.funcs.toList.drop 40).take 40).any Func.goes=false:=by kernel_rfl
theorem go2:((Tryz.prog.funcs.toList.drop 80).take 40).any Func.goes=false:=by kernel_rfl
theorem go3:((Tryz.prog.funcs.toList.drop 120).take 40).any Func.goes=false:=by kernel_rfl
theorem go4:((Tryz.prog.funcs.toList.drop 160).take 40).any Func.goes=false:=by kernel_rfl
theorem go5:((Tryz.prog.funcs.toList.drop 200).take 40).any Func.goes=false:=by kernel_rfl
theorem go6:((Tryz.prog.funcs.toList.drop 240).take 40).any Func.goes=false:=by kernel_rfl
theorem go7:((Tryz.prog.funcs.toList.drop 280).take 40).any Func.goes=false:=by kernel_rfl
theorem go8:((Tryz.prog.funcs.toList.drop 320).take 40).any Func.goes=false:=by kernel_rfl
theorem go9:((Tryz.prog.funcs.toList.drop 360).take 40).any Func.goes=false:=by kernel_rfl
theorem go10:((Tryz.prog.funcs.toList.drop 400).take 40).any Func.goes=false:=by kernel_rfl
theorem go11:((Tryz.prog.funcs.toList.drop 440).take 40).any Func.goes=false:=by kernel_rfl
theorem go12:((Tryz.prog.funcs.toList.drop 480).take 40).any Func.goes=false:=by kernel_rfl
theorem go13:((Tryz.prog.funcs.toList.drop 520).take 40).any Func.goes=false:=by kernel_rfl
theorem go14:((Tryz.prog.funcs.toList.drop 560).take 40).any Func.goes=false:=by kernel_rfl
theorem adJ (l:List Func)(n:Nat)(h:∀k,k<n→((l.drop (40*k)).take 40).any Func.goes=false)(hn:l.length≤40*n):l.any Func.goes=false:=by
 have:∀m (l:List Func),(∀k,k<m→((l.drop (40*k)).take 40).any Func.goes=false)→l.length≤40*m→l.any Func.goes=false:=by
  intro m
  induction m with
  |zero=>intro l _ hl;have:l = []:=List.length_eq_zero_iff.1 (by omega);subst this;rfl
  |succ m ih=>
   intro l h hl
   rw[←List.take_append_drop 40 l,List.any_append]
   have h0:=h 0 (by omega)
   rw[Nat.mul_zero,List.drop_zero] at h0
   rw[h0,ih (l.drop 40) (fun k hk=>by
    have:=h (k+1) (by omega)
    rw[List.drop_drop]
    rw[show 40*(k+1)=40+40*k by omega] at this
    exact this) (by rw[List.length_drop];omega)]
   rfl
 exact this n l h hn
theorem goLen:Tryz.prog.funcs.toList.length≤40*15:=Nat.le_of_ble_eq_true (by kernel_rfl)
theorem Y3:Tryz.prog.funcs.toList.any Func.goes=false:=by
 refine adJ _ 15 (fun k hk=>?_) goLen
 match k,hk with
 |0,_=>exact go0
 |1,_=>exact go1
 |2,_=>exact go2
 |3,_=>exact go3
 |4,_=>exact go4
 |5,_=>exact go5
 |6,_=>exact go6
 |7,_=>exact go7
 |8,_=>exact go8
 |9,_=>exact go9
 |10,_=>exact go10
 |11,_=>exact go11
 |12,_=>exact go12
 |13,_=>exact go13
 |14,_=>exact go14
theorem cg:false=c.goesBy P:=by
 have hg:∀f,Tryz.prog.goes f=false:=by
  intro f
  unfold Program.goes
  have h1:Tryz.prog.funcs.any Func.goes=false:=by rw[←Array.any_toList];exact Y3
  have h2:((Tryz.prog.closure f).any fun g=>(Tryz.prog.funcs[g]?).any Func.goes)=false:=by
   rw[List.any_eq_false]
   intro g _
   cases e:Tryz.prog.funcs[g]? with
   |none=>simp
   |some fn=>
    have hm:fn∈Tryz.prog.funcs.toList:=by rw[Array.mem_toList_iff];exact Array.mem_of_getElem? e
    have:=List.any_eq_false.1 Y3 fn hm
    simpa using this
  rw[h1,h2,Bool.and_false];rfl
 have h3:c.goesBy Tryz.prog=false:=by
  unfold OpenClaim.goesBy Program.goesAt Program.goesFrom
  cases e:Tryz.prog.funcNamed c.func with
  |none=>rfl
  |some f=>simp only[Option.any_some,hg];rfl
 exact h3.symm
end Go.Proofs.YtfeoanopdlpabaaGreatDoor.fnExactServerTick
