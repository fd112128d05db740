/- Part of the proof: the law FnServiceRun is true for every input. -/
import Derived.Below
import Derived.BigQuiet
import Derived.Deep.AppendLies
import Derived.Deep.DeepCutAuto
import Derived.Deep.Draws
import Derived.Deep.QuietTactic
import Derived.Deep.RegionHeld3
import Derived.Laws.BitsAllLaws
import Derived.Laws.BitsLemmas
import Derived.Laws.MakeOwn
import Derived.Laws.OwnMore
import Derived.Laws.Rows
import Derived.Lib.Hide
import Derived.OneCell
import Derived.Outline
import Derived.OwnWalk
import Derived.ProofKit
import Derived.RegionTactic
import Derived.RowKit
import Derived.Test.YtjciicheoghcdaaGreatDoorRows
import Derived.WalkKit
import Derived.WalkLawsBesides
import Derived.WalkSpells
namespace Go.Proofs.YtjciicheoghcdaaGreatDoor
open Go.RowKit Go.Proofs.Tryz
set_option linter.all false
set_option maxRecDepth 20000
set_option maxHeartbeats 16000000
theorem Qh {p:Prop} (h:p):Hid p:=Lib.hid h
theorem Ql {n:Nat}:n<=n:=Nat.le_refl n
theorem Qb {b:Nat} {w:World}:Below b w w:=Below.refl b w
theorem Qc {P:Program} {f:FuncId} {a:Array Value} {w:World} {e:Ending} {K:Ending->World->Prop} (h:Calls P f a w fun e' w'=>e'=e/\w=w') (k:K e w):Calls P f a w K:=h.mono (by rintro _ _ ⟨rfl,rfl⟩;exact k)
def rv (x:Int):Bool:=decide (0<=x/\x<=4095)
theorem aR {x:Int} (h:0<=x/\x<=4095):rv x=true:=decide_eq_true h
theorem kJ {x:Int} (h:rv x=true):0<=x/\x<=4095:=of_decide_eq_true h
theorem bF {x:Int} (h:¬(0<=x/\x<=4095)):rv x=false:=decide_eq_false h
def inB (x a b:Int):Bool:=decide (a<=x/\x<=b)
theorem vZ {x a b:Int} (h:a<=x/\x<=b):inB x a b=true:=decide_eq_true h
theorem pn {x a b:Int} (h:¬(a<=x/\x<=b)):inB x a b=false:=decide_eq_false h
def aJ (a b:Int):Int:=if rv a=true/\rv b=true then (a+b)%4096 else -1
def bC (a b:Int):Int:=if rv a=true/\rv b=true then (a-b)%4096 else -1
def mulR (a b:Int):Int:=if rv a=true/\rv b=true then (a*b)%4096 else -1
def sgn (x:Int):Int:=if rv x=true then (if 2048<=x then x-4096 else x) else -4096
theorem ns (j:Nat) (hj:j<63) (x:Int):bits .and .i64 x ((2 ^ j-1:Nat):Int)=x%((2 ^ j:Nat):Int):=by
 show IntKind.i64.wrap ((BitVec.ofInt 64 x &&& BitVec.ofInt 64 ((2 ^ j-1:Nat):Int)).toNat:Int)=_
 have hp:2 ^ j<2 ^ 63:=Nat.pow_lt_pow_right (by omega) hj
 have hp0:0<2 ^ j:=Nat.two_pow_pos j;have e1:(BitVec.ofInt 64 ((2 ^ j-1:Nat):Int)).toNat=2 ^ j-1:=by
  rw[BitVec.ofInt_natCast,BitVec.toNat_ofNat];exact Nat.mod_eq_of_lt (by omega)
 rw[BitVec.toNat_and,e1,Nat.and_two_pow_sub_one_eq_mod];have e2:((BitVec.ofInt 64 x).toNat:Int)=x%18446744073709551616:=by
  rw[BitVec.toNat_ofInt];have:(0:Int)<=x%((2 ^ 64:Nat):Int):=Int.emod_nonneg _ (by decide)
  rw[Int.toNat_of_nonneg this];rfl
 have e3:(((BitVec.ofInt 64 x).toNat%2 ^ j:Nat):Int)=x%((2 ^ j:Nat):Int):=by
  rw[Int.natCast_emod,e2];have hd:((2 ^ j:Nat):Int)∣18446744073709551616:=by
   have:(2 ^ j:Nat)∣2 ^ 64:=Nat.pow_dvd_pow 2 (by omega)
   exact Int.natCast_dvd_natCast.mpr this
  exact Int.emod_emod_of_dvd x hd
 rw[e3];have h0:0<=x%((2 ^ j:Nat):Int):=Int.emod_nonneg _ (by omega)
 have h1:x%((2 ^ j:Nat):Int)<((2 ^ j:Nat):Int):=Int.emod_lt_of_pos _ (by omega)
 rw[IntKind.wrap_i64];have:((2 ^ j:Nat):Int)<9223372036854775808:=by
  have:((2 ^ j:Nat):Int)<((2 ^ 63:Nat):Int):=by omega
  simpa using this
 omega
theorem tL (x:Int):bits .and .i64 x 4095=x%4096:=ns 12 (by decide) x
theorem yI (x:Int):bits .and .i64 x 15=x%16:=ns 4 (by decide) x
theorem pP (x:Int):bits .and .i64 x 1=x%2:=ns 1 (by decide) x
theorem AW (x:Int):(x%4096 == x)=rv x:=by
 unfold rv
 by_cases h:0<=x/\x<=4095
 ·rw[decide_eq_true h];simp;omega
 ·rw[decide_eq_false h];simp;omega
theorem zS (x:Int):(bits .and .i64 x 4095 == x)=rv x:=by rw[tL,AW]
theorem vd (x:Int):(Int.tmod x 4096+4096).tmod 4096=x%4096:=by
 have h2:Int.tmod x 4096=x-4096*x.tdiv 4096:=by have:=Int.mul_tdiv_add_tmod x 4096;omega
 have h3: -4096<Int.tmod x 4096:=Int.lt_tmod_of_pos x (by decide)
 rw[Int.tmod_eq_emod_of_nonneg (by omega)]
 omega
theorem iL (x:Int) (w:World):Calls prog 54 #[.int .i64 x] w fun e w'=>e= .returned (.bool (rv x))/\w=w':=by
 have h:=zS x
 go_enter func54,ntmps54
 go_wp2
 go_ret
 exact⟨rfl,rfl⟩
theorem an (x:Int) (hx:0<=x/\x<=4095) (w:World):Calls prog 54 #[.int .i64 x] w fun e w'=>e= .returned (.bool true)/\w=w':=by
 rw[<-aR hx];exact iL x w
theorem bZ (x:Int) (hx:¬(0<=x/\x<=4095)) (w:World):Calls prog 54 #[.int .i64 x] w fun e w'=>e= .returned (.bool false)/\w=w':=by
 rw[<-bF hx];exact iL x w
theorem dK (x:Int) (w:World):Calls prog 180 #[.int .i64 x] w fun e w'=>e= .returned (.int .i64 (x%4096))/\w=w':=by
 have h:=tL x
 go_enter func180,ntmps180
 go_wp2
 go_ret
 exact⟨rfl,rfl⟩
theorem lL (x a b:Int) (w:World):Calls prog 53 #[.int .i64 x,.int .i64 a,.int .i64 b] w fun e w'=>e= .returned (.bool (inB x a b))/\w=w':=by
 by_cases h1:a<=x
 ·by_cases h2:x<=b
  ·rw[vZ ⟨h1,h2⟩]
   go_enter func53,ntmps53
   go_wp2
   go_ret
   exact⟨by simp,rfl⟩
  ·rw[pn (fun h=>h2 h.2)]
   go_enter func53,ntmps53
   go_wp2
   go_ret
   exact⟨by simp,rfl⟩
 ·rw[pn (fun h=>h1 h.1)]
  go_enter func53,ntmps53
  go_wp2
  go_ret
  exact⟨rfl,rfl⟩
theorem iQ (x:Int) (w:World):Calls prog 133 #[.int .i64 x] w fun e w'=>e= .returned (.bool (rv x))/\w=w':=by
 go_enter func133,ntmps133
 go_wp2_with (go_at_call 53;refine Qc (lL _ _ _ _) ?_)
 go_ret
 exact⟨rfl,rfl⟩
theorem ak (x:Int) (hx:0<=x/\x<=4095) (w:World):Calls prog 133 #[.int .i64 x] w fun e w'=>e= .returned (.bool true)/\w=w':=by
 rw[<-aR hx];exact iQ x w
theorem bM (x:Int) (hx:¬(0<=x/\x<=4095)) (w:World):Calls prog 133 #[.int .i64 x] w fun e w'=>e= .returned (.bool false)/\w=w':=by
 rw[<-bF hx];exact iQ x w
theorem bG (x:Int) (w:World):Calls prog 132 #[.int .i64 x] w fun e w'=>e= .returned (.int .i64 (x%4096))/\w=w':=by
 have h:=vd x;have h3: -4096<Int.tmod x 4096:=Int.lt_tmod_of_pos x (by decide)
 have h4:Int.tmod x 4096<4096:=Int.tmod_lt_of_pos x (by decide)
 go_enter func132,ntmps132
 go_wp2
 go_ret
 exact⟨rfl,rfl⟩
theorem iX (x y:Int) (w:World):Calls prog 146 #[.int .i64 x,.int .i64 y] w fun e w'=>e= .returned (.int .i64 (aJ x y))/\w=w':=by
 by_cases h1:0<=x/\x<=4095
 ·by_cases h2:0<=y/\y<=4095
  ·have e:aJ x y=(x+y)%4096:=by simp[aJ,aR h1,aR h2]
   rw[e];obtain⟨a1,a2⟩:=h1;obtain⟨b1,b2⟩:=h2;clear e
   go_enter func146,ntmps146
   go_wp2_with (first|(go_at_call 54;refine Qc (an _ ⟨by omega,by omega⟩ _) ?_)|(go_at_call 180;refine Qc (dK _ _) ?_))
   go_ret
   exact⟨rfl,rfl⟩
  ·have e:aJ x y= -1:=by simp[aJ,bF h2]
   rw[e];clear e
   go_enter func146,ntmps146
   go_wp2_with fail
   refine Qc (an _ h1 _) ?_
   go_wp2_with fail
   refine Qc (bZ _ h2 _) ?_;go_wp2
   go_ret
   exact⟨rfl,rfl⟩
 ·have e:aJ x y= -1:=by simp[aJ,bF h1]
  rw[e];clear e
  go_enter func146,ntmps146
  go_wp2_with (go_at_call 54;refine Qc (bZ _ h1 _) ?_)
  go_ret
  exact⟨rfl,rfl⟩
theorem gD (x y:Int) (w:World):Calls prog 209 #[.int .i64 x,.int .i64 y] w fun e w'=>e= .returned (.int .i64 (bC x y))/\w=w':=by
 by_cases h1:0<=x/\x<=4095
 ·by_cases h2:0<=y/\y<=4095
  ·have e:bC x y=(x-y)%4096:=by simp[bC,aR h1,aR h2]
   rw[e];obtain⟨a1,a2⟩:=h1;obtain⟨b1,b2⟩:=h2;clear e
   go_enter func209,ntmps209
   go_wp2_with (first|(go_at_call 54;refine Qc (an _ ⟨by omega,by omega⟩ _) ?_)|(go_at_call 180;refine Qc (dK _ _) ?_))
   go_ret
   exact⟨rfl,rfl⟩
  ·have e:bC x y= -1:=by simp[bC,bF h2]
   rw[e];clear e
   go_enter func209,ntmps209
   go_wp2_with fail
   refine Qc (an _ h1 _) ?_
   go_wp2_with fail
   refine Qc (bZ _ h2 _) ?_;go_wp2
   go_ret
   exact⟨rfl,rfl⟩
 ·have e:bC x y= -1:=by simp[bC,bF h1]
  rw[e];clear e
  go_enter func209,ntmps209
  go_wp2_with (go_at_call 54;refine Qc (bZ _ h1 _) ?_)
  go_ret
  exact⟨rfl,rfl⟩
theorem uN (x y:Int) (w:World):Calls prog 303 #[.int .i64 x,.int .i64 y] w fun e w'=>e= .returned (.int .i64 (mulR x y))/\w=w':=by
 by_cases h1:0<=x/\x<=4095
 ·by_cases h2:0<=y/\y<=4095
  ·have e:mulR x y=(x*y)%4096:=by simp[mulR,aR h1,aR h2]
   rw[e];obtain⟨a1,a2⟩:=h1;obtain⟨b1,b2⟩:=h2;clear e;have p1:0<=x*y:=Int.mul_nonneg a1 b1;have p2:x*y<=4095*4095:=Int.mul_le_mul a2 b2 b1 (by decide)
   go_enter func303,ntmps303
   go_wp2_with (first|(go_at_call 54;refine Qc (an _ ⟨by omega,by omega⟩ _) ?_)|(go_at_call 180;refine Qc (dK _ _) ?_))
   go_ret
   exact⟨rfl,rfl⟩
  ·have e:mulR x y= -1:=by simp[mulR,bF h2]
   rw[e];clear e
   go_enter func303,ntmps303
   go_wp2_with fail
   refine Qc (an _ h1 _) ?_
   go_wp2_with fail
   refine Qc (bZ _ h2 _) ?_;go_wp2
   go_ret
   exact⟨rfl,rfl⟩
 ·have e:mulR x y= -1:=by simp[mulR,bF h1]
  rw[e];clear e
  go_enter func303,ntmps303
  go_wp2_with (go_at_call 54;refine Qc (bZ _ h1 _) ?_)
  go_ret
  exact⟨rfl,rfl⟩
theorem pG (x y:Int) (w:World):Calls prog 142 #[.int .i64 x,.int .i64 y] w fun e w'=>e= .returned (.int .i64 (aJ x y))/\w=w':=by
 by_cases h1:0<=x/\x<=4095
 ·by_cases h2:0<=y/\y<=4095
  ·have e:aJ x y=(x+y)%4096:=by simp[aJ,aR h1,aR h2]
   rw[e];obtain⟨a1,a2⟩:=h1;obtain⟨b1,b2⟩:=h2;clear e
   go_enter func142,ntmps142
   go_wp2_with (first|(go_at_call 133;refine Qc (ak _ ⟨by omega,by omega⟩ _) ?_)|(go_at_call 132;refine Qc (bG _ _) ?_))
   go_ret
   exact⟨rfl,rfl⟩
  ·have e:aJ x y= -1:=by simp[aJ,bF h2]
   rw[e];clear e
   go_enter func142,ntmps142
   go_wp2_with fail
   refine Qc (ak _ h1 _) ?_
   go_wp2_with fail
   refine Qc (bM _ h2 _) ?_;go_wp2
   go_ret
   exact⟨rfl,rfl⟩
 ·have e:aJ x y= -1:=by simp[aJ,bF h1]
  rw[e];clear e
  go_enter func142,ntmps142
  go_wp2_with (go_at_call 133;refine Qc (bM _ h1 _) ?_)
  go_ret
  exact⟨rfl,rfl⟩
theorem vj (x y:Int) (w:World):Calls prog 137 #[.int .i64 x,.int .i64 y] w fun e w'=>e= .returned (.int .i64 (bC x y))/\w=w':=by
 by_cases h1:0<=x/\x<=4095
 ·by_cases h2:0<=y/\y<=4095
  ·have e:bC x y=(x-y)%4096:=by simp[bC,aR h1,aR h2]
   rw[e];obtain⟨a1,a2⟩:=h1;obtain⟨b1,b2⟩:=h2;clear e
   go_enter func137,ntmps137
   go_wp2_with (first|(go_at_call 133;refine Qc (ak _ ⟨by omega,by omega⟩ _) ?_)|(go_at_call 132;refine Qc (bG _ _) ?_))
   go_ret
   exact⟨rfl,rfl⟩
  ·have e:bC x y= -1:=by simp[bC,bF h2]
   rw[e];clear e
   go_enter func137,ntmps137
   go_wp2_with fail
   refine Qc (ak _ h1 _) ?_
   go_wp2_with fail
   refine Qc (bM _ h2 _) ?_;go_wp2
   go_ret
   exact⟨rfl,rfl⟩
 ·have e:bC x y= -1:=by simp[bC,bF h1]
  rw[e];clear e
  go_enter func137,ntmps137
  go_wp2_with (go_at_call 133;refine Qc (bM _ h1 _) ?_)
  go_ret
  exact⟨rfl,rfl⟩
theorem pH (x y:Int) (w:World):Calls prog 265 #[.int .i64 x,.int .i64 y] w fun e w'=>e= .returned (.int .i64 (mulR x y))/\w=w':=by
 by_cases h1:0<=x/\x<=4095
 ·by_cases h2:0<=y/\y<=4095
  ·have e:mulR x y=(x*y)%4096:=by simp[mulR,aR h1,aR h2]
   rw[e];obtain⟨a1,a2⟩:=h1;obtain⟨b1,b2⟩:=h2;clear e;have p1:0<=x*y:=Int.mul_nonneg a1 b1;have p2:x*y<=4095*4095:=Int.mul_le_mul a2 b2 b1 (by decide)
   go_enter func265,ntmps265
   go_wp2_with (first|(go_at_call 133;refine Qc (ak _ ⟨by omega,by omega⟩ _) ?_)|(go_at_call 132;refine Qc (bG _ _) ?_))
   go_ret
   exact⟨rfl,rfl⟩
  ·have e:mulR x y= -1:=by simp[mulR,bF h2]
   rw[e];clear e
   go_enter func265,ntmps265
   go_wp2_with fail
   refine Qc (ak _ h1 _) ?_
   go_wp2_with fail
   refine Qc (bM _ h2 _) ?_;go_wp2
   go_ret
   exact⟨rfl,rfl⟩
 ·have e:mulR x y= -1:=by simp[mulR,bF h1]
  rw[e];clear e
  go_enter func265,ntmps265
  go_wp2_with (go_at_call 133;refine Qc (bM _ h1 _) ?_)
  go_ret
  exact⟨rfl,rfl⟩
def Bytes (w:World) (B:Nat) (A:Option Addr) (len:Nat):Prop :=
 0<len->∃ b off:Nat,A=some ⟨b,off,none⟩/\b<B/\∀ i,i<len->∃ v:Int,0<=v/\v<=255/\w.cell? ⟨b,off+i,none⟩=some (.int .u8 v)
theorem Bytes.au {w w':World} {B:Nat} {A:Option Addr} {len:Nat} (h:Bytes w B A len) (hk:∀ k,k<B->w'.heap[k]?=w.heap[k]?):Bytes w' B A len:=fun hl=>by
 obtain⟨b,off,e,hb,hc⟩:=h hl;refine⟨b,off,e,hb,fun i hi=>?_⟩
 obtain⟨v,v0,v1,hv⟩:=hc i hi
 exact⟨v,v0,v1,(World.cell?_of_block (w:=w) (hk b hb)).trans hv⟩
theorem Bytes.mono {w:World} {B B':Nat} {A:Option Addr} {len:Nat} (h:Bytes w B A len) (hB:B<=B'):Bytes w B' A len:=fun hl=>by
 obtain⟨b,off,e,hb,hc⟩:=h hl
 exact⟨b,off,e,by omega,hc⟩
theorem Bytes.less {w:World} {B:Nat} {A:Option Addr} {len len':Nat} (h:Bytes w B A len) (hl:len'<=len):Bytes w B A len':=fun h0=>by
 obtain⟨b,off,e,hb,hc⟩:=h (by omega)
 exact⟨b,off,e,hb,fun i hi=>hc i (by omega)⟩
def Rd (w:World) (rb P:Nat):Prop:=∃ (A:Option Addr) (len cap p:Nat),w.heap[rb]?=some (.cells #[.slice A len cap,.int .i64 (p:Int)] 116 (0,0))/\p<=P/\len<=2000/\Bytes w rb A len
theorem Rd.lt {w:World} {rb P:Nat} (h:Rd w rb P):rb<w.heap.size:=by
 obtain⟨A,len,cap,p,hb,_⟩:=h;rcases Nat.lt_or_ge rb w.heap.size with h|h
 ·exact h
 ·rw[Array.getElem?_eq_none h] at hb;cases hb
theorem Rd.mono {w:World} {rb P P':Nat} (h:Rd w rb P) (hP:P<=P'):Rd w rb P':=by
 obtain⟨A,len,cap,p,hb,hp,hr⟩:=h
 exact⟨A,len,cap,p,hb,by omega,hr⟩
theorem Rd.au {w w':World} {rb P:Nat} (h:Rd w rb P) (hk:∀ k,k<=rb->w'.heap[k]?=w.heap[k]?):Rd w' rb P:=by
 obtain⟨A,len,cap,p,hb,hp,hl,hr⟩:=h
 exact⟨A,len,cap,p,(hk rb Ql).trans hb,hp,hl,hr.au fun k h=>hk k (by omega)⟩
theorem Rd.below {w w':World} {rb P:Nat} (h:Rd w rb P) (hb:Below w.heap.size w w'):Rd w' rb P:=h.au fun k hk=>hb.block k (by have:=h.lt;omega)
theorem Rd.alloc {w:World} {rb P:Nat} (h:Rd w rb P) (o:Obj):Rd (w.alloc o) rb P:=h.au fun k hk=>Below.heap_alloc w o k (by have:=h.lt;omega)
theorem Rd.drew {w:World} {rb P:Nat} (h:Rd w rb P):Rd w.drew rb P:=h
theorem Rd.drewN {w:World} {rb P:Nat} (h:Rd w rb P) (n:Nat):Rd (w.drewN n) rb P:=h
theorem Rd.setCell {w:World} {rb P:Nat} (h:Rd w rb P) {a:Addr} (ha:rb<a.block) (u:Value):Rd (w.setCell a u) rb P:=h.au fun k hk=>Below.heap_setCell w a u k (by omega)
def aZ (rb:Nat) (w w':World):Prop:=w.grownBy w' (some rb)
theorem aZ.refl (rb:Nat) (w:World):aZ rb w w:=World.grownBy.refl w _
theorem aZ.trans {rb:Nat} {a b c:World} (h:aZ rb a b) (k:aZ rb b c):aZ rb a c :=
 ⟨k.os.trans h.os,k.tape.trans h.tape,k.output.trans h.output,Nat.le_trans h.size k.size,fun i hi hne=>(k.block i (Nat.lt_of_lt_of_le hi h.size) hne).trans (h.block i hi hne)⟩
theorem aZ.drew {rb:Nat} {a w:World} (h:aZ rb a w):aZ rb a w.drew:=⟨h.os,h.tape,h.output,h.size,h.block⟩
theorem aZ.drewN {rb:Nat} {a w:World} (h:aZ rb a w) (n:Nat):aZ rb a (w.drewN n):=⟨h.os,h.tape,h.output,h.size,h.block⟩
theorem aZ.alloc {rb:Nat} {a w:World} (h:aZ rb a w) (o:Obj):aZ rb a (w.alloc o) :=
 ⟨h.os,h.tape,h.output,Nat.le_trans h.size (by simp),fun i hi hne=>(Below.heap_alloc w o i (Nat.lt_of_lt_of_le hi h.size)).trans (h.block i hi hne)⟩
theorem aZ.setCell {rb:Nat} {a w:World} (h:aZ rb a w) {p:Addr} (hp:p.block=rb\/a.heap.size<=p.block) (u:Value):aZ rb a (w.setCell p u) :=
 ⟨h.os,h.tape,h.output,by simpa [World.setCell] using h.size,fun i hi hne=>(Below.heap_setCell w p u i (by
  rintro rfl;rcases hp with hp|hp
  ·exact hne (by rw[hp])
  ·omega)).trans (h.block i hi hne)⟩
theorem aZ.below {rb:Nat} {a b c:World} (h:aZ rb a b) (k:Below b.heap.size b c):aZ rb a c:=h.trans ⟨k.os,k.tape,k.output,k.size,fun i hi _=>k.block i hi⟩
theorem aZ.cell {rb:Nat} {w w':World} (h:aZ rb w w') {b o:Nat} (hb:b<w.heap.size) (hne:b≠rb):w'.cell? ⟨b,o,none⟩=w.cell? ⟨b,o,none⟩ :=
 World.cell?_of_block (w:=w) (a:=⟨b,o,none⟩) (h.block b hb (fun e=>hne (by injection e)))
theorem aZ.frozen {rb:Nat} {w w':World} (h:aZ rb w w') {b o:Nat} (hb:b<w.heap.size) (hne:b≠rb):w'.frozen? ⟨b,o,none⟩=w.frozen? ⟨b,o,none⟩ :=
 World.frozen?_of_block (w:=w) (a:=⟨b,o,none⟩) (h.block b hb (fun e=>hne (by injection e)))
theorem aZ.toBelow {rb B:Nat} {w w':World} (h:aZ rb w w') (h1:B<=rb) (h2:B<=w.heap.size):Below B w w' :=
 ⟨h.os,h.tape,h.output,h.size,fun k hk=>h.block k (by omega) (fun e=>by injection e;omega)⟩
theorem Rd.only {w w':World} {rb rb' P:Nat} (h:Rd w rb P) (ho:aZ rb' w w') (hr:rb<rb'):Rd w' rb P:=h.au fun k hk=>ho.block k (by have:=h.lt;omega) (fun e=>by injection e;omega)
theorem rm (a b:Nat) (ha:a<9223372036854775808) (hb:b<9223372036854775808):bits .xor .i64 (a:Int) (b:Int)=((a ^^^ b:Nat):Int):=by
 have hx:a ^^^ b<2 ^ 63:=Nat.xor_lt_two_pow (by omega) (by omega)
 show IntKind.i64.wrap ((BitVec.ofInt 64 (a:Int) ^^^ BitVec.ofInt 64 (b:Int)).toNat:Int)=_
 have ea:(BitVec.ofInt 64 (a:Int)).toNat=a:=by rw[BitVec.ofInt_natCast,BitVec.toNat_ofNat];exact Nat.mod_eq_of_lt (by omega)
 have eb:(BitVec.ofInt 64 (b:Int)).toNat=b:=by rw[BitVec.ofInt_natCast,BitVec.toNat_ofNat];exact Nat.mod_eq_of_lt (by omega)
 rw[BitVec.toNat_xor,ea,eb,IntKind.wrap_i64]
 omega
theorem EE (a b:Int) (h1:0<=a) (h2:a<9223372036854775808) (h3:0<=b) (h4:b<9223372036854775808):0<=bits .xor .i64 a b:=by
 obtain⟨A,rfl⟩:=Int.eq_ofNat_of_zero_le h1;obtain⟨B,rfl⟩:=Int.eq_ofNat_of_zero_le h3;rw[rm A B (by omega) (by omega)]
 omega
def Pk (w:World) (rb P:Nat) (n:Int) (e:Ending) (w':World):Prop:=∃ v:Int,e= .returned (.int .i64 v)/\0<=v/\(v<n\/v=0)/\Rd w' rb P/\aZ rb w w'
theorem DR {w:World} {rb P:Nat} {A:Option Addr} {len cap p:Nat} (hb:w.heap[rb]?=some (.cells #[.slice A len cap,.int .i64 (p:Int)] 116 (0,0))) (hp:p<=P) (hl:len<=2000) (hr:Bytes w rb A len) (k:Nat) :
  Rd ((w.setCell ⟨rb,1,none⟩ (.int .i64 ((p:Int)+1))).drewN k) rb (P+1)/\aZ rb w ((w.setCell ⟨rb,1,none⟩ (.int .i64 ((p:Int)+1))).drewN k):=by
 refine⟨Rd.drewN ⟨A,len,cap,p+1,?_,by omega,hl,hr.au fun k hk=>Below.heap_setCell w _ _ k (by dsimp only;omega)⟩ k,aZ.drewN ((aZ.refl rb w).setCell (.inl rfl) _) k⟩
 simp[World.setCell,Array.getElem?_modify,hb]
theorem EK (rb P:Nat) (n:Int) (hn:n<1) (w:World) (h:Rd w rb P) (hP:P<1099511627776):Calls prog 71 #[.pointer (some ⟨rb,0,none⟩),.int .i64 n] w (Pk w rb (P+1) n):=by
 obtain⟨A,len,cap,p,hb,hp,hl,hr⟩:=h;have c0:w.cell? ⟨rb,0,none⟩=some (.slice A len cap):=by simp[World.cell?,hb]
 have c1:w.cell? ⟨rb,1,none⟩=some (.int .i64 (p:Int)):=by simp[World.cell?,hb]
 have f1:w.frozen? ⟨rb,1,none⟩=false:=by simp[World.frozen?,hb]
 have q1:(p:Int)<=1099511627776:=by omega
 have HS:=Qh (DR hb hp hl hr 0);clear hb hr hp
 go_enter func71,ntmps71
 go_wp2
 go_ret
 exact⟨0,rfl,by omega,.inr rfl,HS.out.1,HS.out.2⟩
theorem EA (rb P:Nat) (n:Int) (hn:1<=n) (w:World) (A:Option Addr) (cap p:Nat) (hb:w.heap[rb]?=some (.cells #[.slice A 0 cap,.int .i64 (p:Int)] 116 (0,0))) (hp:p<=P) (hr:Bytes w rb A 0) (hP:P<1099511627776) :
  Calls prog 71 #[.pointer (some ⟨rb,0,none⟩),.int .i64 n] w (Pk w rb (P+1) n):=by
 have c0:w.cell? ⟨rb,0,none⟩=some (.slice A 0 cap):=by simp[World.cell?,hb]
 have c1:w.cell? ⟨rb,1,none⟩=some (.int .i64 (p:Int)):=by simp[World.cell?,hb]
 have f1:w.frozen? ⟨rb,1,none⟩=false:=by simp[World.frozen?,hb]
 have q1:(p:Int)<=1099511627776:=by omega
 have HS:=Qh (DR hb hp (by omega) hr 0)
 clear hb hr hp
 go_enter func71,ntmps71
 go_wp2
 go_ret
 exact⟨0,rfl,by omega,.inr rfl,HS.out.1,HS.out.2⟩
theorem EJ (rb P:Nat) (n:Int) (hn:1<=n) (w:World) (b off len cap p:Nat) (hb:w.heap[rb]?=some (.cells #[.slice (some ⟨b,off,none⟩) len cap,.int .i64 (p:Int)] 116 (0,0))) (hp:p<=P) (hl:len<=2000) (hr:Bytes w rb (some ⟨b,off,none⟩) len) (hP:P<1099511627776)
  (hlt:p<len):Calls prog 71 #[.pointer (some ⟨rb,0,none⟩),.int .i64 n] w (Pk w rb (P+1) n):=by
 obtain⟨b',off',e,hbr,hc⟩:=hr (by omega)
 injection e with e;injection e with e1 e2;subst e1 e2;obtain⟨v,v0,v1,hv⟩:=hc p hlt;have c0:w.cell? ⟨rb,0,none⟩=some (.slice (some ⟨b,off,none⟩) len cap):=by simp[World.cell?,hb]
 have c1:w.cell? ⟨rb,1,none⟩=some (.int .i64 (p:Int)):=by simp[World.cell?,hb]
 have f1:w.frozen? ⟨rb,1,none⟩=false:=by simp[World.frozen?,hb]
 have q1:(p:Int)<=1099511627776:=by omega
 have hne:¬b=rb:=by omega
 have hne':¬rb=b:=by omega
 have hle:((len:Int) == 0)=false:=by simp;omega
 have HS:=Qh (DR hb hp (by omega) hr 0)
 have m1:0<=v%n:=Int.emod_nonneg _ (by omega)
 have m2:v%n<n:=Int.emod_lt_of_pos _ (by omega)
 clear hb hr hp hc
 go_enter func71,ntmps71
 go_wp2
 go_ret
 exact⟨_,rfl,m1,.inl m2,HS.out.1,HS.out.2⟩
theorem EU (rb P:Nat) (n:Int) (hn:1<=n) (w:World) (b off len cap p:Nat) (hb:w.heap[rb]?=some (.cells #[.slice (some ⟨b,off,none⟩) len cap,.int .i64 (p:Int)] 116 (0,0))) (hp:p<=P) (hl:len<=2000) (hr:Bytes w rb (some ⟨b,off,none⟩) len) (hP:P<1099511627776)
  (hge:len<=p) (hl0:0<len):Calls prog 71 #[.pointer (some ⟨rb,0,none⟩),.int .i64 n] w (Pk w rb (P+1) n):=by
 obtain⟨b',off',e,hbr,hc⟩:=hr hl0;injection e with e;injection e with e1 e2;subst e1 e2;have hk1:p%len<len:=Nat.mod_lt _ hl0;have hk2:(p*7+3)%len<len:=Nat.mod_lt _ hl0;obtain⟨v1,v10,v11,hv1⟩:=hc _ hk1;obtain⟨v2,v20,v21,hv2⟩:=hc _ hk2;have c0:w.cell? ⟨rb,0,none⟩=some (.slice (some ⟨b,off,none⟩) len cap):=by simp[World.cell?,hb]
 have c1:w.cell? ⟨rb,1,none⟩=some (.int .i64 (p:Int)):=by simp[World.cell?,hb]
 have f1:w.frozen? ⟨rb,1,none⟩=false:=by simp[World.frozen?,hb]
 have q1:(p:Int)<=1099511627776:=by omega
 have hne:¬b=rb:=by omega
 have hne':¬rb=b:=by omega
 have hle:((len:Int) == 0)=false:=by simp;omega
 have HS:=Qh (DR hb hp (by omega) hr)
 have i3:((p:Int)*7+3)%(len:Int)=((p*7+3)%len:Nat):=by rw[Int.natCast_emod];congr 1
 have i0:0<=((p:Int)*7+3)%(len:Int):=by rw[i3];omega
 have i1:((p:Int)*7+3)%(len:Int)<(len:Int):=by rw[i3];omega
 have i2:(((p:Int)*7+3)%(len:Int)).toNat=(p*7+3)%len:=by rw[i3];omega
 clear i3;have d0:0<=(p:Int)/(len:Int):=Int.ediv_nonneg (by omega) (by omega)
 have d1:(p:Int)/(len:Int)<=(p:Int):=Int.ediv_le_self _ (by omega)
 have hx:=EE (v1*131+v2*1117+(p:Int)*29+(p:Int)/(len:Int)*53) ((v1*131+v2*1117+(p:Int)*29+(p:Int)/(len:Int)*53)/64) (by omega) (by omega) (by omega) (by omega)
 have m1:=Int.emod_nonneg (bits .xor .i64 (v1*131+v2*1117+(p:Int)*29+(p:Int)/(len:Int)*53) ((v1*131+v2*1117+(p:Int)*29+(p:Int)/(len:Int)*53)/64)) (b:=n) (by omega)
 have m2:=Int.emod_lt_of_pos (bits .xor .i64 (v1*131+v2*1117+(p:Int)*29+(p:Int)/(len:Int)*53) ((v1*131+v2*1117+(p:Int)*29+(p:Int)/(len:Int)*53)/64)) (b:=n) (by omega)
 clear hb hr hp hc
 go_enter func71,ntmps71
 go_upto_region 7 with fail
 go_quiet (fail)
 go_wp2
 go_ret
 exact⟨_,rfl,m1,.inl m2,(HS.out _).1,(HS.out _).2⟩
theorem FE (rb P:Nat) (n:Int) (w:World) (h:Rd w rb P) (hP:P<1099511627776):Calls prog 71 #[.pointer (some ⟨rb,0,none⟩),.int .i64 n] w (Pk w rb (P+1) n):=by
 by_cases hn:n<1
 ·exact EK rb P n hn w h hP
 ·obtain⟨A,len,cap,p,hb,hp,hl,hr⟩:=h;rcases Nat.eq_zero_or_pos len with h0|h0
  ·subst h0
   exact EA rb P n (by omega) w A cap p hb hp hr hP
  ·obtain⟨b,off,rfl,_⟩:=hr h0
   by_cases hlt:p<len
   ·exact EJ rb P n (by omega) w b off len cap p hb hp hl hr hP hlt
   ·exact EU rb P n (by omega) w b off len cap p hb hp hl hr hP (by omega) h0
def Od (w:World) (rb P:Nat) (e:Ending) (w':World):Prop:=∃ v:Bool,e= .returned (.bool v)/\Rd w' rb P/\aZ rb w w'
theorem EG (rb P:Nat) (n:Int) (hn:0<=n/\n<=1000000) (w:World) (h:Rd w rb P) (hP:P<1099511627776):Calls prog 72 #[.pointer (some ⟨rb,0,none⟩),.int .i64 n] w (Od w rb (P+1)):=by
 obtain⟨n0,n1⟩:=hn
 by_cases hn:0<n
 ·go_enter func72,ntmps72
  go_wp2_with fail
  refine(FE rb P n w h hP).mono ?_;rintro e w1 ⟨v,rfl,v0,v1,hr,ho⟩;clear h;have HR:=Qh hr;have HO:=Qh ho;clear hr ho v1
  cases hv:v == n-1
  all_goals
   go_wp2
   go_ret
   exact⟨_,rfl,HR.out,HO.out⟩
 ·have h':=Qh (h.mono (Nat.le_succ P));clear h
  go_enter func72,ntmps72
  go_wp2
  go_ret
  exact⟨_,rfl,h'.out,aZ.refl _ _⟩
def Opn (w:World) (e:Ending) (w':World):Prop:=e= .returned (.pointer (some ⟨w.heap.size,0,none⟩))/\Rd w' w.heap.size 0/\Below w.heap.size w w'/\w.heap.size<w'.heap.size
theorem EM (A:Option Addr) (len cap:Nat) (w:World) (hl:len<=cap) (hm:cap<=maxLen) (hr:Bytes w w.heap.size A len) (h0:A=none->cap=0):Calls prog 31 #[.slice A len cap] w (Opn w):=by
 unfold maxLen at hm
 by_cases h:2000<len
 ·have HB:=Qh (hr.less (len':=2000) (by omega))
  obtain⟨b,off,rfl,_⟩:=hr (by omega)
  clear hr h0;have hcap:¬cap<2000:=by omega
  go_enter func31,ntmps31
  go_wp2
  go_ret
  refine⟨rfl,⟨_,2000,cap,0,heap_alloc_new w _,by omega,by omega,HB.out.au fun k hk=>Below.heap_alloc w _ k hk⟩,Qb.alloc Ql _,by simp⟩
 ·have HB:=Qh hr;clear hr h0
  go_enter func31,ntmps31
  go_wp2
  go_ret
  refine⟨rfl,⟨_,len,cap,0,heap_alloc_new w _,by omega,by omega,HB.out.au fun k hk=>Below.heap_alloc w _ k hk⟩,Qb.alloc Ql _,by simp⟩
theorem FG (l:List Int) (lo hi:Int) (h:∀ x∈l,lo<=x/\x<=hi) (v:Int) (h0:0<=v) (h1:v<l.length):∃ x,l[v.toNat]?=some x/\lo<=x/\x<=hi:=by
 have hk:v.toNat<l.length:=by omega
 exact⟨l[v.toNat],List.getElem?_eq_getElem hk,h _ (List.getElem_mem hk)⟩
theorem kr (w:World) (l:List Int) (t:TypeId) (k:Nat):(w.alloc (.cells (l.map (Value.int .i64)).toArray t)).cell? ⟨w.heap.size,k,none⟩=(l[k]?).map (Value.int .i64):=by
 rw[cell_of_row _ w.heap.size k _ t (0,0) (heap_alloc_new w _)]
 simp
theorem DH (rb:Nat) (w:World):Calls prog 72 #[.pointer (some ⟨rb,0,none⟩),.int .i64 0] w fun e w'=>e= .returned (.bool false)/\w=w':=by
 go_enter func72,ntmps72
 go_wp2
 go_ret
 exact⟨rfl,rfl⟩
def Rg0 (w:World) (rb P:Nat) (e:Ending) (w':World):Prop:=∃ v:Int,e= .returned (.int .i64 v)/\0<=v/\v<=4095/\Rd w' rb P/\aZ rb w w'
theorem DV (rb P:Nat) (w:World) (h:Rd w rb P) (hP:P<549755813888):Calls prog 162 #[.pointer (some ⟨rb,0,none⟩),.int .i64 0] w (Rg0 w rb (P+6)):=by
 have hrw:=h.lt
 go_enter func162,ntmps162
 go_wp2_with fail
 refine(FE rb P 256 w h (by omega)).mono ?_
 rintro e w1 ⟨v1,rfl,a1,b1,r1,o1⟩;have c1:v1<=255:=by omega
 clear b1
 go_wp2_with fail
 refine(FE rb (P+1) 256 w1 r1 (by omega)).mono ?_
 rintro e w2 ⟨v2,rfl,a2,b2,r2,o2⟩;have c2:v2<=255:=by omega
 clear b2
 go_wp2_with fail
 refine Qc (bG _ _) ?_
 go_wp2_with fail
 refine(FE rb (P+1+1) 256 w2 r2 (by omega)).mono ?_
 rintro e w3 ⟨v3,rfl,a3,b3,r3,o3⟩;have c3:v3<=255:=by omega
 have t3:=r3.lt;clear b3
 go_wp2_with fail
 refine(FE rb (P+1+1+1) 8 _ (r3.alloc _) (by omega)).mono ?_
 rintro e w4 ⟨v4,rfl,a4,b4,r4,o4⟩;have c4:v4<8:=by omega
 clear b4;obtain⟨x,hx,x0,x1⟩:=FG [v1*16,(v2-128)%4096,v3,0,4095,2048,2047,16] 0 4095 (by simp;omega) v4 a4 (by simp;omega)
 have hcx:w4.cell? ⟨w3.heap.size,v4.toNat,none⟩=some (.int .i64 x):=by
  rw[o4.cell (by simp) (by omega)]
  have:=kr w3 [v1*16,(v2-128)%4096,v3,0,4095,2048,2047,16] 3 v4.toNat;rw[hx] at this
  exact this
 have O4:=Qh ((o1.trans (o2.trans o3)).trans ((aZ.refl rb w3).alloc _ |>.trans o4));clear o1 o2 o3 o4 hx r1 r2 r3
 go_wp2_with fail
 refine Qc (DH rb w4) ?_;go_wp2
 go_ret
 exact⟨x,rfl,x0,x1,r4.mono (by omega),O4.out⟩
section
def Blk (w:World) (g:Nat) (t:TypeId) (cs:Array Value):Prop:=w.heap[g]?=some (.cells cs t (0,0))
section
variable {w w':World} {g:Nat} {t:TypeId} {cs:Array Value}
theorem Blk.lt (h:Blk w g t cs):g<w.heap.size:=by
 rcases Nat.lt_or_ge g w.heap.size with hlt|hge
 ·exact hlt
 ·unfold Blk at h;rw[Array.getElem?_eq_none hge] at h;cases h
theorem Blk.cell (h:Blk w g t cs) (i:Nat):w.cell? ⟨g,i,none⟩=cs[i]?:=cell_of_row w g i cs t (0,0) h
theorem Blk.frozen (h:Blk w g t cs) (i:Nat):w.frozen? ⟨g,i,none⟩=false:=by
 unfold Blk at h
 simp[World.frozen?,h]
theorem Blk.new (w:World) (t:TypeId) (cs:Array Value):Blk (w.alloc (.cells cs t)) w.heap.size t cs:=heap_alloc_new w _
theorem Blk.drew (h:Blk w g t cs):Blk w.drew g t cs:=h
theorem Blk.drewN (h:Blk w g t cs) (n:Nat):Blk (w.drewN n) g t cs:=h
theorem Blk.alloc (h:Blk w g t cs) (o:Obj):Blk (w.alloc o) g t cs:=(Below.heap_alloc w o g h.lt).trans h
theorem Blk.dc (h:Blk w g t cs) (i:Nat) (u:Value):Blk (w.setCell ⟨g,i,none⟩ u) g t (cs.setIfInBounds i u):=by
 unfold Blk at h ⊢
 simp[World.setCell,Array.getElem?_modify,h]
theorem Blk.far (h:Blk w g t cs) {p:Addr} (hp:g≠p.block) (u:Value):Blk (w.setCell p u) g t cs:=(Below.heap_setCell w p u g hp).trans h
theorem Blk.below {B:Nat} (h:Blk w g t cs) (hb:Below B w w') (hg:g<B):Blk w' g t cs:=(hb.block g hg).trans h
theorem Blk.aa (h:Blk w g t cs) (hb:Below w.heap.size w w'):Blk w' g t cs:=h.below hb h.lt
theorem Blk.only {rb:Nat} (h:Blk w g t cs) (ho:aZ rb w w') (hne:g≠rb):Blk w' g t cs:=(ho.block g h.lt (fun e=>hne (by injection e))).trans h
end
theorem aZ.eW {rb:Nat} {a b:World} (k:Below a.heap.size a b):aZ rb a b:=⟨k.os,k.tape,k.output,k.size,fun i hi _=>k.block i hi⟩
theorem tM {W w1:World} {B:Nat} (hb:Below B W w1):(∀ b o,b<B->w1.cell? ⟨b,o,none⟩=W.cell? ⟨b,o,none⟩)/\(∀ b o,b<B->w1.frozen? ⟨b,o,none⟩=W.frozen? ⟨b,o,none⟩) :=
 ⟨fun b o h=>hb.cell (p:=⟨b,o,none⟩) h,fun b o h=>hb.frozen (p:=⟨b,o,none⟩) h⟩
end
section
theorem bp {B B':Nat} {a b c:World} (k:Below B' b c) (hB:B<=B') (h:Below B a b):Below B a c:=h.trans (k.mono hB)
theorem below_drewN {B:Nat} {a w:World} (h:Below B a w) (n:Nat):Below B a (w.drewN n):=⟨h.os,h.tape,h.output,h.size,h.block⟩
def blk (A:Option Addr):Option Nat:=A.map (·.block)
def SI (w:World) (A:Option Addr) (n:Nat) (xs:List Int):Prop :=
 xs.length=n/\(0<n->∃ b off:Nat,A=some ⟨b,off,none⟩/\b<w.heap.size/\∀ i,i<n->w.cell? ⟨b,off+i,none⟩=some (.int .i64 (xs.getD i 0)))
def OS (w:World) (base:Nat) (A:Option Addr) (n cap:Nat) (xs:List Int):Prop:=w.ownsRow base 3 1 (.slice A n cap) n (xs.map (Value.int .i64))
def eJ (A B:Option Addr):Prop:=∀ g,blk A=some g->blk B≠some g
def bJ (A:Option Addr) (w w':World):Prop:=w.grownBy w' (blk A)
theorem aO (A:Option Addr) (n c:Nat):(Value.slice A n c).ownBlock=blk A:=by cases A <;> rfl
theorem eJ.symm {A B:Option Addr} (h:eJ A B):eJ B A:=fun g hb ha=>h g ha hb
section
variable {w w':World} {base n cap:Nat} {A:Option Addr} {xs:List Int}
theorem SI.len (h:SI w A n xs):xs.length=n:=h.1
theorem SI.au (h:SI w A n xs) (hs:w.heap.size<=w'.heap.size) (hk:∀ g,blk A=some g->g<w.heap.size->w'.heap[g]?=w.heap[g]?):SI w' A n xs :=
 ⟨h.1,fun hn=>by
  obtain⟨b,off,rfl,hb,hc⟩:=h.2 hn
  exact⟨b,off,rfl,by omega,fun i hi=>(World.cell?_of_block (w:=w) (hk b rfl hb)).trans (hc i hi)⟩⟩
theorem SI.below (h:SI w A n xs) (hb:Below w.heap.size w w'):SI w' A n xs:=h.au hb.size fun g _ hg=>hb.block g hg
theorem SI.alloc (h:SI w A n xs) (o:Obj):SI (w.alloc o) A n xs:=h.au (by simp) fun g _ hg=>Below.heap_alloc w o g hg
theorem SI.drewN (h:SI w A n xs) (k:Nat):SI (w.drewN k) A n xs:=h
theorem SI.bR {B:Option Addr} (h:SI w A n xs) (ho:bJ B w w') (ha:eJ A B):SI w' A n xs :=
 h.au ho.size fun g hg hl=>ho.block g hl (fun e=>ha g hg e.symm)
theorem SI.only {rb:Nat} (h:SI w A n xs) (ho:aZ rb w w') (ha:blk A≠some rb):SI w' A n xs :=
 h.au ho.size fun g hg hl=>ho.block g hl (fun e=>ha (by rw[hg];exact e))
theorem SI.nil (w:World) (A:Option Addr):SI w A 0 []:=⟨rfl,fun h=>absurd h (by omega)⟩
theorem OS.len (h:OS w base A n cap xs):xs.length=n:=by have:=h.1;simpa using this
theorem OS.dC (h:OS w base A n cap xs):n<=cap/\cap<=maxLen:=by
 rcases h.2 with⟨e,e'⟩|⟨g,c,cur,e,_,_,h1,h2,_⟩
 ·injection e with e1 e2 e3;subst e3;subst e';exact⟨Nat.le_refl _,by unfold maxLen;omega⟩
 ·injection e with e1 e2 e3;subst e3;exact⟨h1,h2⟩
theorem OS.pos (h:OS w base A n cap xs) (hn:0<n):∃ g,A=some ⟨g,0,none⟩/\base<=g/\g<w.heap.size:=by
 rcases h.2 with⟨e,e'⟩|⟨g,c,cur,e,hb,hh,_⟩
 ·omega
 ·injection e with e1
  exact⟨g,e1,hb,(Array.getElem?_eq_some_iff.1 hh).1⟩
theorem OS.si (h:OS w base A n cap xs):SI w A n xs:=⟨h.len,fun hn=>by
 obtain⟨g,rfl,hb,hl⟩:=h.pos hn;refine⟨g,0,rfl,hl,fun i hi=>?_⟩
 have:=World.ownsRow.cellAt h i (by omega)
 have hi':i<xs.length:=by rw[h.len];exact hi
 rw[Nat.zero_add,this,List.getElem?_map,List.getElem?_eq_getElem hi']
 simp[hi']⟩
theorem OS.aj (h:OS w base A n cap xs):∀ g,blk A=some g->base<=g/\g<w.heap.size:=fun g hg=>h.lt g (by rw[aO];exact hg)
theorem OS.frozen (h:OS w base A n cap xs) (j:Nat):∀ g,A=some ⟨g,0,none⟩->w.frozen? ⟨g,j,none⟩=false:=fun g hg=>by subst hg;exact World.ownsRow.frozenAt h j
theorem OS.au (h:OS w base A n cap xs) (hs:w.heap.size<=w'.heap.size) (hk:∀ g,blk A=some g->g<w.heap.size->w'.heap[g]?=w.heap[g]?):OS w' base A n cap xs:=by
 refine⟨h.1,?_⟩;rcases h.2 with hn|⟨g,c,cur,e,hb,hh,rest⟩
 ·exact .inl hn
 ·refine .inr ⟨g,c,cur,e,hb,?_,rest⟩;rw[hk g (by injection e with e1;rw[e1];rfl) (Array.getElem?_eq_some_iff.1 hh).1]
  exact hh
theorem OS.below (h:OS w base A n cap xs) (hb:Below w.heap.size w w'):OS w' base A n cap xs:=h.au hb.size fun g _ hg=>hb.block g hg
theorem OS.alloc (h:OS w base A n cap xs) (o:Obj):OS (w.alloc o) base A n cap xs:=h.au (by simp) fun g _ hg=>Below.heap_alloc w o g hg
theorem OS.drewN (h:OS w base A n cap xs) (k:Nat):OS (w.drewN k) base A n cap xs:=h
theorem OS.bR {B:Option Addr} (h:OS w base A n cap xs) (ho:bJ B w w') (ha:eJ A B):OS w' base A n cap xs :=
 h.au ho.size fun g hg hl=>ho.block g hl (fun e=>ha g hg e.symm)
theorem OS.nil (w:World) (base:Nat):OS w base none 0 0 []:=World.ownsRow_nil w base _ _
theorem OS.mono {base':Nat} (h:OS w base A n cap xs) (hb:base'<=base):OS w base' A n cap xs:=by
 refine⟨h.1,?_⟩;rcases h.2 with hn|⟨g,c,cur,e,hg,rest⟩
 ·exact .inl hn
 ·exact .inr ⟨g,c,cur,e,by omega,rest⟩
theorem OS.wK {g:Nat} (h:Blk w g 3 (xs.map (Value.int .i64)).toArray) (hb:base<=g) (hm:xs.length<=maxLen):OS w base (some ⟨g,0,none⟩) xs.length xs.length xs :=
 ⟨by simp,.inr ⟨g,xs.length,_,rfl,hb,h,Nat.le_refl _,hm,by simp,List.take_of_length_le (by simp)⟩⟩
theorem SI.aj (h:SI w A n xs) (hn:0<n):∀ g,blk A=some g->g<w.heap.size:=fun g hg=>by
 obtain⟨b,off,rfl,hb,_⟩:=h.2 hn;injection hg with hg;subst hg;exact hb
end
theorem bJ.toBelow {A:Option Addr} {B:Nat} {w w':World} (h:bJ A w w') (hb:∀ g,blk A=some g->B<=g) (hs:B<=w.heap.size):Below B w w' :=
 ⟨h.os,h.tape,h.output,h.size,fun k hk=>h.block k (by omega) (fun e=>by have:=hb k e.symm;omega)⟩
theorem bJ.eW {A:Option Addr} {w w':World} (k:Below w.heap.size w w'):bJ A w w':=⟨k.os,k.tape,k.output,k.size,fun i hi _=>k.block i hi⟩
end
theorem eU:(prog.info? 3).map (fun i=>(i.zero,i.size,i.bytes))=some (some (.int .i64 0),1,8):=by kernel_rfl
theorem ag {k:IntKind} {a b:Int} (h:a=b):Ending.returned (.int k a)= .returned (.int k b):=by rw[h]
theorem lI {A:Option Addr} {n m c:Nat} (h:n=m):Ending.returned (.slice A n c)= .returned (.slice A m c):=by rw[h]
theorem dn {a b:Bool} (h:a=b):Ending.returned (.bool a)= .returned (.bool b):=by rw[h]
theorem ji {α} (l:List α) (k:Nat) (h:k<l.length):l.take (k+1)=l.take k++[l[k]]:=by
 rw[List.take_succ_eq_append_getElem h]
theorem eX (l:List Int) (k:Nat) (h:k<l.length):l.getD k 0=l[k]:=by
 rw[List.getD_eq_getElem?_getD,List.getElem?_eq_getElem h];rfl
theorem qM {xs ys:List Int} {k:Nat} (h1:k<xs.length) (h2:k<ys.length) (h:xs.take k=ys.take k) (he:xs.getD k 0=ys.getD k 0):xs.take (k+1)=ys.take (k+1):=by
 rw[ji xs k h1,ji ys k h2,h,<-eX xs k h1,<-eX ys k h2,he]
def eqL (xs ys:List Int):Bool:=decide (xs=ys)
theorem nf (xs:List Int):eqL xs xs=true:=decide_eq_true rfl
theorem Ag {xs ys:List Int} {k:Nat} (h:xs.getD k 0≠ys.getD k 0):eqL xs ys=false:=decide_eq_false (fun e=>h (by rw[e]))
theorem xK {xs ys:List Int} (h:xs.length≠ys.length):eqL xs ys=false:=decide_eq_false (fun e=>h (by rw[e]))
theorem Ew (A B:Option Addr) (n cn m cm:Nat) (xs ys:List Int) (w:World) (hx:SI w A n xs) (hy:SI w B m ys) (bn:n<=281474976710656) (bm:m<=281474976710656) :
  Calls prog 194 #[.slice A n cn,.slice B m cm] w fun e w'=>e= .returned (.bool (eqL xs ys))/\Below w.heap.size w w':=by
 by_cases hnm:n=m
 ·subst hnm
  by_cases h0:n=0
  ·subst h0;have e1:xs=[]:=List.eq_nil_of_length_eq_zero hx.1;have e2:ys=[]:=List.eq_nil_of_length_eq_zero hy.1;subst e1 e2;rw[nf];clear hx hy
   go_enter func194,ntmps194
   go_wp2;refine wp_loop_rounds 1 ?_;rw[rounds_succ];go_wp2
   go_ret
   exact⟨rfl,Below.refl _ _⟩
  ·obtain⟨b,off,rfl,hb,hc⟩:=hx.2 (by omega)
   obtain⟨b',off',rfl,hb',hc'⟩:=hy.2 (by omega)
   have lx:=Qh hx.1;have ly:=Qh hy.1;have HC:=Qh hc;have HC':=Qh hc';have h0':((n:Int) != (n:Int))=false:=by simp
   clear hx hy hc hc'
   go_enter func194,ntmps194
   go_wp2
   go_loopw [5] (fun i wr=>∃ k:Nat,k<=n/\i= .int .i64 k/\Below w.heap.size w wr/\Hid (xs.take k=ys.take k)) (fun i _=>n-(intOf i).toNat)
   case atStart=>exact⟨0,Nat.zero_le _,rfl,Below.refl _ _,rfl⟩
   case round =>
    obtain⟨k,hk,rfl,hbel,heq⟩:=hrel
    by_cases hlt:k<n
    ·obtain⟨x,ex⟩:∃ x,x=xs.getD k 0:=⟨_,rfl⟩;obtain⟨y,ey⟩:∃ y,y=ys.getD k 0:=⟨_,rfl⟩;have cx:wr.cell? ⟨b,off+k,none⟩=some (.int .i64 x):=by rw[ex];exact(hbel.cell (p:=⟨b,off+k,none⟩) hb).trans (HC.out k hlt)
     have cy:wr.cell? ⟨b',off'+k,none⟩=some (.int .i64 y):=by rw[ey];exact(hbel.cell (p:=⟨b',off'+k,none⟩) hb').trans (HC'.out k hlt)
     have EX:=Qh ex;have EY:=Qh ey;have HB:=Qh hbel;have i0:(0:Int)<=(k:Int):=by omega
     have i1:(k:Int)<(n:Int):=by omega
     clear ex ey hbel
     by_cases hxy:x=y
     ·subst hxy
      go_wp2_with fail
      go_quiet (fail)
      go_wp2
      go_roundw
      case rel=>exact⟨k+1,by omega,by go_num,below_drewN HB.out _,qM (by rw[lx.out];exact hlt) (by rw[ly.out];exact hlt) heq.out (EX.out.symm.trans EY.out)⟩
      case measure=>simp[intOf];omega
     ·have hne:(x != y)=true:=by simp[hxy]
      go_wp2_with fail
      go_quiet (fail)
      go_wp2
      go_ret
      exact⟨dn (a:=false) (Ag (k:=k) (by rw[<-EX.out,<-EY.out];exact hxy)).symm,below_drewN HB.out _⟩
    ·have hfin:eqL xs ys=true:=by
      have:k=n:=by omega
      subst this;have h:=heq.out;rw[List.take_of_length_le (by rw[lx.out];exact Nat.le_refl _),List.take_of_length_le (by rw[ly.out];exact Nat.le_refl _)] at h
      rw[h];exact nf _
     have HB:=Qh hbel;have HF:=Qh hfin;clear hbel hfin heq;go_wp2
     go_ret
     exact⟨dn (a:=true) HF.out.symm,HB.out⟩
 ·have e:eqL xs ys=false:=xK (by rw[hx.1,hy.1];exact hnm)
  rw[e];have hne:((n:Int) != (m:Int))=true:=by simp;omega
  clear hx hy e
  go_enter func194,ntmps194
  go_wp2
  go_ret
  exact⟨rfl,Below.refl _ _⟩
def marks (k:Int) (n:Nat):List Int:=(List.range n).map (fun(i:Nat)=>k+(i:Int))
def ZB (n:Nat):Obj:= .cells (madeCells #[.int .i64 0] n) 3
theorem jc (n:Nat) (hn:n<=35184372088832) (w:World):(Instr.makeSlice 35 (.int .i64 (n:Int)) (.int .i64 (n:Int))).run prog w= .ok (.slice (some ⟨w.heap.size,0,none⟩) n n) (w.alloc (ZB n)):=by
 obtain⟨i,hi,hz,h1,h8⟩:=info_parts eU;have h:=run_make (P:=prog) w 35 3 i _ underlying35 hi hz .i64 .i64 (n:Int) (n:Int) (by omega) (Int.le_refl _) (by rw[h8];omega) (by omega)
 rw[h,h1];simp only[Int.toNat_natCast,Nat.mul_one]
 rfl
theorem OS.sN (w:World) (n:Nat) (hn:n<=35184372088832):OS (w.alloc (ZB n)) w.heap.size (some ⟨w.heap.size,0,none⟩) n n (List.replicate n 0):=by
 have h:=World.ownsRow_lit (base:=w.heap.size) (e:=3) (size:=1) w (madeCells #[.int .i64 0] n) n Ql (by unfold maxLen;omega) (by simp[size_madeCells])
 have e:(madeCells #[.int .i64 0] n).toList=(List.replicate n (0:Int)).map (Value.int .i64):=by rw[toList_madeCells_one];simp
 rw[e] at h
 exact h
def zH (xs:List Int) (w:World) (e:Ending) (w':World):Prop:=∃ (A:Option Addr) (c:Nat),e= .returned (.slice A xs.length c)/\OS w' w.heap.size A xs.length c xs/\Below w.heap.size w w'
theorem j7 {xs:List Int} {k:Nat} (h1:k<xs.length):xs.getD k 0∈xs:=by rw[eX xs k h1];exact List.getElem_mem _
def fl (f:Nat->Int) (n:Nat):List Int:=(List.range n).map f
theorem aD (f:Nat->Int) (n:Nat):(fl f n).length=n:=by simp[fl]
theorem dd (f:Nat->Int) (n:Nat):fl f (n+1)=fl f n++[f n]:=by simp[fl,List.range_succ]
theorem jF (f:Nat->Int) (n j:Nat) (h:j<n):(fl f j++List.replicate (n-j) 0).set j (f j)=fl f (j+1)++List.replicate (n-(j+1)) 0:=by
 rw[List.set_append_right _ _ (by rw[aD];exact Nat.le_refl _),aD,Nat.sub_self,dd,List.append_assoc]
 have e:n-j=(n-(j+1))+1:=by omega
 rw[e,List.replicate_succ]
 rfl
theorem r_ {w:World} {base n:Nat} {v:Value} {xs:List Int} (h:w.ownsRow base 3 1 v n (xs.map (Value.int .i64))):∃ A c,v= .slice A n c/\OS w base A n c xs:=by
 rcases h.2 with⟨rfl,rfl⟩|⟨g,c,cur,rfl,r⟩
 ·exact⟨none,0,rfl,h⟩
 ·exact⟨some ⟨g,0,none⟩,c,rfl,h⟩
theorem wO {w wr w1:World} {base k c:Nat} {A:Option Addr} {xs:List Int} {x:Int} {v':Value} {o:Obj} (hos:OS wr base A k c xs) (hb:Below base w wr) (hbs:base<=wr.heap.size)
  (hown:w1.ownsRow base 3 1 v' (k+1) (xs.map (Value.int .i64)++[.int .i64 x])) (hg:(wr.alloc o).grownBy w1 (Value.slice A k c).ownBlock) :
  ∃ A' c',v'= .slice A' (k+1) c'/\OS w1 base A' (k+1) c' (xs++[x])/\Below base w w1:=by
 have h:=r_ (xs:=xs++[x]) (by simpa using hown)
 obtain⟨A',c',hv,ho⟩:=h;refine⟨A',c',hv,ho,?_⟩;refine((hb.alloc hbs o).grown hg (by simp;omega) (fun g hg'=>?_))
 rw[aO] at hg'
 exact(hos.aj g hg').1
theorem fS {w wr w1:World} {base k c g cap:Nat} {A:Option Addr} {xs:List Int} {x:Int} {o:Obj} (hos:OS wr base A k c xs) (hb:Below base w wr) (hbs:base<=wr.heap.size)
  (hown:w1.ownsRow base 3 1 (.slice (some ⟨g,0,none⟩) (k+1) cap) (k+1) (xs.map (Value.int .i64)++[.int .i64 x])) (hg:(wr.alloc o).grownBy w1 (Value.slice A k c).ownBlock)
  (hat:(Value.slice A k c).ownBlock=some g\/g=wr.heap.size+1) :
  OS w1 base (some ⟨g,0,none⟩) (k+1) cap (xs++[x])/\Below base w w1/\bJ A wr w1/\(blk A=some g\/wr.heap.size<=g):=by
 rw[aO] at hg hat;refine⟨?_,(hb.alloc hbs o).grown hg (by simp;omega) (fun g hg'=>(hos.aj g hg').1),⟨hg.os,hg.tape,hg.output,by have:=hg.size;simp at this;omega,fun i hi hne=>(hg.block i (by simp;omega) hne).trans (Below.heap_alloc wr o i hi)⟩,?_⟩
 ·have h:=r_ (xs:=xs++[x]) (by simpa using hown)
  obtain⟨A',c',hv,ho⟩:=h;injection hv with e1 e2 e3;subst e1 e3
  exact ho
 ·rcases hat with h|h
  ·exact .inl h
  ·exact .inr (by omega)
theorem mY {B A:Option Addr} {g:Nat} {w:World} {base m d:Nat} {ys:List Int} (h:eJ B A) (hB:OS w base B m d ys) (hg:blk A=some g\/w.heap.size<=g):eJ B (some ⟨g,0,none⟩):=fun k hk e=>by
 injection e with e
 dsimp only at e
 subst e;rcases hg with hg|hg
 ·exact h _ hk hg
 ·have:=(hB.aj _ hk).2;omega
theorem fL (f:Nat->Int) (n i:Nat) (h:i<n):(fl f n).getD i 0=f i:=by simp[fl,List.getD_eq_getElem?_getD,h]
def vy (n:Nat) (xs:List Int) (w:World) (e:Ending) (w':World):Prop:=∃ (A:Option Addr) (c:Nat),e= .returned (.slice A n c)/\OS w' w.heap.size A n c xs/\Below w.heap.size w w'
theorem zH.n {xs:List Int} {w:World} {e:Ending} {w':World} {n:Nat} (h:zH xs w e w') (hn:xs.length=n):vy n xs w e w':=by subst hn;exact h
theorem OS.only {w w':World} {base n cap rb:Nat} {A:Option Addr} {xs:List Int} (h:OS w base A n cap xs) (ho:aZ rb w w') (hr:rb<base):OS w' base A n cap xs:=h.au ho.size fun g hg hl=>ho.block g hl (fun e=>by injection e;have:=(h.aj g hg).1;omega)
theorem yH:(List.range 4096).all (fun x=>decide ((x ^^^ 2048:Nat)=if 2048<=x then x-2048 else x+2048))=true:=by decide +kernel
theorem xe {x:Int} (h:0<=x/\x<=4095):IntKind.i64.wrap (bits .xor .i64 x 2048-2048)=sgn x:=by
 obtain⟨m,rfl⟩:∃ m:Nat,x=(m:Int):=⟨x.toNat,by omega⟩
 have hm:m<4096:=by omega
 have e:=rm m 2048 (by omega) (by omega)
 have e2:((2048:Nat):Int)=(2048:Int):=rfl;rw[e2] at e;rw[e];have h1:=of_decide_eq_true (List.all_eq_true.1 yH m (List.mem_range.2 hm));rw[h1];unfold sgn;rw[if_pos (aR h)]
 split
 ·rw[if_pos (by omega),IntWalk.i64_in _ (by omega)];omega
 ·rw[if_neg (by omega),IntWalk.i64_in _ (by omega)];omega
theorem Bd (x:Int): -4096<=sgn x/\sgn x<=2047:=by
 unfold sgn
 split
 ·have:=kJ (by assumption);split <;> omega
 ·omega
theorem zx {x:Int} (h:¬(0<=x/\x<=4095)):sgn x= -4096:=by
 unfold sgn;rw[bF h];rfl
theorem xf {x:Int} (h:0<=x/\x<=4095) (h2:2048<=x):sgn x=x-4096:=by
 unfold sgn;rw[if_pos (aR h),if_pos h2]
theorem xg {x:Int} (h:0<=x/\x<=4095) (h2:¬2048<=x):sgn x=x:=by
 unfold sgn;rw[if_pos (aR h),if_neg h2]
theorem dL (x:Int) (w:World):Calls prog 108 #[.int .i64 x] w fun e w'=>e= .returned (.int .i64 (sgn x))/\w=w':=by
 by_cases h:0<=x/\x<=4095
 ·have hs:=xe h;have HS:=Qh hs
  go_enter func108,ntmps108
  go_wp2_with fail
  refine Qc (an x h _) ?_;go_wp2
  go_ret
  first|exact⟨rfl,rfl⟩|exact⟨ag HS.out,rfl⟩
 ·rw[zx h]
  go_enter func108,ntmps108
  go_wp2_with fail
  refine Qc (bZ x h _) ?_;go_wp2
  go_ret
  exact⟨rfl,rfl⟩
theorem dN (x:Int) (w:World):Calls prog 141 #[.int .i64 x] w fun e w'=>e= .returned (.int .i64 (sgn x))/\w=w':=by
 by_cases h:0<=x/\x<=4095
 ·by_cases h2:2048<=x
  ·have hw:IntKind.i64.wrap (x-4096)=x-4096:=IntWalk.i64_in _ (by omega)
   rw[xf h h2]
   go_enter func141,ntmps141
   go_wp2_with fail
   refine Qc (ak x h _) ?_;go_wp2
   go_ret
   exact⟨rfl,rfl⟩
  ·rw[xg h h2]
   go_enter func141,ntmps141
   go_wp2_with fail
   refine Qc (ak x h _) ?_;go_wp2
   go_ret
   exact⟨rfl,rfl⟩
 ·rw[zx h]
  go_enter func141,ntmps141
  go_wp2_with fail
  refine Qc (bM x h _) ?_;go_wp2
  go_ret
  exact⟨rfl,rfl⟩
theorem pO {f:Int->Bool} {xs:List Int} {x:Int} (hm:x∈xs) (h:f x=false):xs.all f=false:=by
 rw[List.all_eq_false];exact⟨x,hm,by simp[h]⟩
theorem k_ {f:Int->Bool} {xs:List Int} {k:Nat} (h1:k<xs.length) (h:(xs.take k).all f=true) (hx:f (xs.getD k 0)=true):(xs.take (k+1)).all f=true:=by
 rw[eX xs k h1] at hx;rw[ji xs k h1,List.all_append,h];simp[hx]
theorem iY (A:Option Addr) (n c:Nat) (xs:List Int) (w:World) (hx:SI w A n xs) (bn:n<=281474976710656) :
  Calls prog 107 #[.slice A n c] w fun e w'=>e= .returned (.bool (xs.all rv))/\w=w':=by
 by_cases h0:n=0
 ·subst h0;have e0:xs=[]:=List.eq_nil_of_length_eq_zero hx.1;subst e0;clear hx
  go_enter func107,ntmps107
  go_wp2;refine wp_loop_rounds 1 ?_;rw[rounds_succ];go_wp2
  go_ret
  exact⟨rfl,rfl⟩
 obtain⟨b,off,rfl,hb,hc⟩:=hx.2 (by omega)
 have lx:=Qh hx.1;have HC:=Qh hc;clear hx hc
 go_enter func107,ntmps107
 go_wp2
 go_loop [7] (fun i=>∃ k:Nat,k<=n/\i= .int .i64 k/\Hid ((xs.take k).all rv=true)) (fun i=>n-(intOf i).toNat)
 case atStart=>exact⟨0,Nat.zero_le _,rfl,by simp[Hid]⟩
 case round =>
  obtain⟨k,hk,rfl,heq⟩:=hrel
  by_cases hlt:k<n
  ·obtain⟨x,ex⟩:∃ x,x=xs.getD k 0:=⟨_,rfl⟩;have cx:w.cell? ⟨b,off+k,none⟩=some (.int .i64 x):=by rw[ex];exact HC.out k hlt
   have EX:=Qh ex;clear ex
   by_cases hxv:0<=x/\x<=4095
   ·go_wp2_with fail
    refine Qc (an x hxv _) ?_;go_wp2
    go_round
    case rel=>exact⟨k+1,by omega,by go_num,k_ (by rw[lx.out];exact hlt) heq.out (by rw[<-EX.out];exact aR hxv)⟩
    case measure=>simp[intOf];omega
   ·have hfin:xs.all rv=false:=pO (j7 (k:=k) (by rw[lx.out];exact hlt)) (by rw[<-EX.out];exact bF hxv)
    have HF:=Qh hfin;clear hfin
    go_wp2_with fail
    refine Qc (bZ x hxv _) ?_;go_wp2
    go_ret
    exact⟨dn (a:=false) HF.out.symm,rfl⟩
  ·have hfin:xs.all rv=true:=by
    have:k=n:=by omega
    subst this;have h:=heq.out
    rwa [List.take_of_length_le (by rw[lx.out];exact Nat.le_refl _)] at h
   have HF:=Qh hfin;clear hfin heq;go_wp2
   go_ret
   exact⟨dn (a:=true) HF.out.symm,rfl⟩
section
def EI (s:Nat) (w:World) (A:Option Addr) (n:Nat) (zs:List Int):Prop:=SI w A (n*s) zs
def EO (T:TypeId) (s:Nat) (w:World) (base:Nat) (A:Option Addr) (n cap:Nat) (zs:List Int):Prop:=w.ownsRow base T s (.slice A n cap) n (zs.map (Value.int .i64))
theorem wQ {n s k j:Nat} (hk:k<n) (hj:j<s):k*s+j<n*s:=by
 have h:(k+1)*s<=n*s:=Nat.mul_le_mul_right s hk;rw[Nat.add_mul,Nat.one_mul] at h
 omega
section
variable {w w':World} {base n cap s:Nat} {A:Option Addr} {xs:List Int} {T:TypeId}
theorem EI.at (h:EI s w A n xs) (hs:0<s) (h0:0<n):∃ b off:Nat,A=some ⟨b,off,none⟩/\b<w.heap.size/\∀ k j,k<n->j<s->w.cell? ⟨b,off+(k*s+j),none⟩=some (.int .i64 (xs.getD (k*s+j) 0)):=by
 obtain⟨b,off,rfl,hb,hc⟩:=h.2 (Nat.mul_pos h0 hs)
 exact⟨b,off,rfl,hb,fun k j hk hj=>hc (k*s+j) (wQ hk hj)⟩
theorem EI.at2 (h:EI 2 w A n xs) (h0:0<n):∃ b off:Nat,A=some ⟨b,off,none⟩/\b<w.heap.size/\∀ k,k<n->w.cell? ⟨b,off+k*2,none⟩=some (.int .i64 (xs.getD (k*2) 0))/\w.cell? ⟨b,off+k*2+1,none⟩=some (.int .i64 (xs.getD (k*2+1) 0)):=by
 obtain⟨b,off,rfl,hb,hc⟩:=h.at (by omega) h0
 exact⟨b,off,rfl,hb,fun k hk=>⟨hc k 0 hk (by omega),by have:=hc k 1 hk (by omega);rwa [<-Nat.add_assoc] at this⟩⟩
theorem EO.len (h:EO T s w base A n cap xs):xs.length=n*s:=by have:=h.1;simpa using this
theorem EO.dC (h:EO T s w base A n cap xs):n<=cap/\cap<=maxLen:=by
 rcases h.2 with⟨e,e'⟩|⟨g,c,cur,e,_,_,h1,h2,_⟩
 ·injection e with e1 e2 e3;subst e3;subst e';exact⟨Nat.le_refl _,by unfold maxLen;omega⟩
 ·injection e with e1 e2 e3;subst e3;exact⟨h1,h2⟩
theorem EO.pos (h:EO T s w base A n cap xs) (hn:0<n):∃ g,A=some ⟨g,0,none⟩/\base<=g/\g<w.heap.size:=by
 rcases h.2 with⟨e,e'⟩|⟨g,c,cur,e,hb,hh,_⟩
 ·omega
 ·injection e with e1
  exact⟨g,e1,hb,(Array.getElem?_eq_some_iff.1 hh).1⟩
theorem EO.si (h:EO T s w base A n cap xs):EI s w A n xs:=⟨h.len,fun hn=>by
 obtain⟨g,rfl,hb,hl⟩:=h.pos (Nat.pos_of_ne_zero fun e=>by subst e;omega)
 refine⟨g,0,rfl,hl,fun i hi=>?_⟩
 have:=World.ownsRow.cellAt h i hi;have hi':i<xs.length:=by rw[h.len];exact hi
 rw[Nat.zero_add,this,List.getElem?_map,List.getElem?_eq_getElem hi']
 simp[hi']⟩
theorem EO.aj (h:EO T s w base A n cap xs):∀ g,blk A=some g->base<=g/\g<w.heap.size:=fun g hg=>h.lt g (by rw[aO];exact hg)
theorem EO.frozen (h:EO T s w base A n cap xs) (j:Nat):∀ g,A=some ⟨g,0,none⟩->w.frozen? ⟨g,j,none⟩=false:=fun g hg=>by subst hg;exact World.ownsRow.frozenAt h j
theorem EO.au (h:EO T s w base A n cap xs) (hs:w.heap.size<=w'.heap.size) (hk:∀ g,blk A=some g->g<w.heap.size->w'.heap[g]?=w.heap[g]?):EO T s w' base A n cap xs:=by
 refine⟨h.1,?_⟩;rcases h.2 with hn|⟨g,c,cur,e,hb,hh,rest⟩
 ·exact .inl hn
 ·refine .inr ⟨g,c,cur,e,hb,?_,rest⟩;rw[hk g (by injection e with e1;rw[e1];rfl) (Array.getElem?_eq_some_iff.1 hh).1]
  exact hh
theorem EO.below (h:EO T s w base A n cap xs) (hb:Below w.heap.size w w'):EO T s w' base A n cap xs:=h.au hb.size fun g _ hg=>hb.block g hg
theorem EO.alloc (h:EO T s w base A n cap xs) (o:Obj):EO T s (w.alloc o) base A n cap xs:=h.au (by simp) fun g _ hg=>Below.heap_alloc w o g hg
theorem EO.drewN (h:EO T s w base A n cap xs) (k:Nat):EO T s (w.drewN k) base A n cap xs:=h
theorem EO.bR {B:Option Addr} (h:EO T s w base A n cap xs) (ho:bJ B w w') (ha:eJ A B):EO T s w' base A n cap xs :=
 h.au ho.size fun g hg hl=>ho.block g hl (fun e=>ha g hg e.symm)
theorem EO.only {rb:Nat} (h:EO T s w base A n cap xs) (ho:aZ rb w w') (hr:rb<base):EO T s w' base A n cap xs:=h.au ho.size fun g hg hl=>ho.block g hl (fun e=>by injection e;have:=(h.aj g hg).1;omega)
theorem EO.nil (w:World) (base:Nat):EO T s w base none 0 0 []:=World.ownsRow_nil w base _ _
theorem EO.mono {base':Nat} (h:EO T s w base A n cap xs) (hb:base'<=base):EO T s w base' A n cap xs:=by
 refine⟨h.1,?_⟩;rcases h.2 with hn|⟨g,c,cur,e,hg,rest⟩
 ·exact .inl hn
 ·exact .inr ⟨g,c,cur,e,by omega,rest⟩
theorem EO.store {g:Nat} (h:EO T s w base (some ⟨g,0,none⟩) n cap xs) (j:Nat) (x:Int):EO T s (w.setCell ⟨g,j,none⟩ (.int .i64 x)) base (some ⟨g,0,none⟩) n cap (xs.set j x):=by
 have:=(World.ownsRow.stored h j (.int .i64 x)).1;rw[<-List.map_set] at this
 exact this
theorem EO.cell {g:Nat} (h:EO T s w base (some ⟨g,0,none⟩) n cap xs) (j:Nat) (hj:j<n*s):w.cell? ⟨g,j,none⟩=some (.int .i64 (xs.getD j 0)):=by
 obtain⟨b,off,e,_,hc⟩:=h.si.2 (by omega)
 injection e with e;injection e with e1 e2;subst e1 e2;have:=hc j hj
 rwa [Nat.zero_add] at this
theorem EO.form {v:Value} (h:w.ownsRow base T s v n (xs.map (Value.int .i64))):∃ A c,v= .slice A n c/\EO T s w base A n c xs:=by
 rcases h.2 with⟨rfl,rfl⟩|⟨g,c,cur,rfl,r⟩
 ·exact⟨none,0,rfl,h⟩
 ·exact⟨some ⟨g,0,none⟩,c,rfl,h⟩
theorem EO.push {wr w1:World} {k c m:Nat} {ys:List Int} {v':Value} {o:Obj} (hos:EO T s wr base A k c xs) (hb:Below base w wr) (hbs:base<=wr.heap.size)
  (hown:w1.ownsRow base T s v' (k+m) (xs.map (Value.int .i64)++ys.map (Value.int .i64))) (hg:(wr.alloc o).grownBy w1 (Value.slice A k c).ownBlock) :
  ∃ A' c',v'= .slice A' (k+m) c'/\EO T s w1 base A' (k+m) c' (xs++ys)/\Below base w w1:=by
 obtain⟨A',c',hv,ho⟩:=EO.form (xs:=xs++ys) (by simpa using hown)
 refine⟨A',c',hv,ho,?_⟩;refine((hb.alloc hbs o).grown hg (by simp;omega) (fun g hg'=>?_))
 rw[aO] at hg'
 exact(hos.aj g hg').1
end
end
def cv (w:World) (g o:Nat):Value:=(w.cell? ⟨g,o,none⟩).getD undef
theorem OS.dk {w:World} {base n c g i:Nat} {A:Option Addr} {xs:List Int} {t:TypeId} {cs:Array Value} (h:OS w base A n c xs) (hb:Blk w g t cs) (hne:3≠t) (u:Value):OS (w.setCell ⟨g,i,none⟩ u) base A n c xs:=by
 refine h.au (by simp[World.setCell]) fun g' hg' hl=>Below.heap_setCell w _ u g' ?_
 rintro rfl;rcases h.2 with⟨e,_⟩|⟨g2,cap,cur,e,_,hh,_⟩
 ·injection e with e1;subst e1;cases hg'
 ·injection e with e1;subst e1;injection hg' with hg'
  dsimp only at hg'
  subst hg';unfold Blk at hb;rw[hb] at hh;injection hh with hh;injection hh with _ hh
  exact hne hh.symm
theorem bf {w:World} {base n c h:Nat} {A:Option Addr} {xs:List Int} {t:TypeId} {cs:Array Value} (ho:OS w base A n c xs) (hb:Blk w h t cs) (hne:3≠t):blk A≠some h:=by
 intro e;rcases ho.2 with⟨e1,_⟩|⟨g2,cap,cur,e1,_,hh,_⟩
 ·injection e1 with e1;subst e1;cases e
 ·injection e1 with e1;subst e1;injection e with e
  dsimp only at e
  subst e;unfold Blk at hb;rw[hb] at hh;injection hh with hh;injection hh with _ hh
  exact hne hh.symm
theorem Blk.bR {w w':World} {g:Nat} {A:Option Addr} {t:TypeId} {cs:Array Value} (h:Blk w g t cs) (ho:bJ A w w') (hne:blk A≠some g):Blk w' g t cs:=(ho.block g h.lt (fun e=>hne e.symm)).trans h
theorem yg {W W0 w1:World} {base n c m g cap:Nat} {A:Option Addr} {xs ys:List Int} (hos:OS W base A n c xs) (hg:W0.grownBy w1 (Value.slice A n c).ownBlock) (h0:Below W.heap.size W W0)
  (hown:w1.ownsRow base 3 1 (.slice (some ⟨g,0,none⟩) (n+m) cap) (n+m) (xs.map (Value.int .i64)++ys.map (Value.int .i64))):OS w1 base (some ⟨g,0,none⟩) (n+m) cap (xs++ys)/\bJ A W w1:=by
 rw[aO] at hg;refine⟨?_,⟨hg.os.trans h0.os,hg.tape.trans h0.tape,hg.output.trans h0.output,Nat.le_trans h0.size hg.size,fun i hi hne=>(hg.block i (Nat.lt_of_lt_of_le hi h0.size) hne).trans (h0.block i hi)⟩⟩
 unfold OS;rw[List.map_append]
 exact hown
theorem mT (w:World) {base:Nat} (hb:base<=w.heap.size):OS (w.alloc (.cells #[] 3)) base (some ⟨w.heap.size,0,none⟩) 0 0 []:=OS.mono (World.ownsRow_made w _ 0 Ql (by unfold maxLen;omega) rfl) hb
theorem yf (W:World) {base g:Nat} (hb:base<=g) (hg:W.heap.size=g):OS (W.alloc (.cells #[] 3)) base (some ⟨g,0,none⟩) 0 0 []:=by subst hg;exact mT W hb
theorem ux {w1:World} {b off n:Nat} {v:List Int} (hl:v.length=n) (h:∀ k,k<n->w1.cell? ⟨b,off+k,none⟩=some (.int .i64 (v.getD k 0))):∀ j u,(v.map (Value.int .i64))[j]?=some u->w1.cell? ((⟨b,off,none⟩:Addr).add j)=some u:=by
 intro j u hu;have hj:j<v.length:=by
  rcases Nat.lt_or_ge j v.length with h|h
  ·exact h
  ·rw[List.getElem?_eq_none (by simpa using h)] at hu;cases hu
 have hadd:(⟨b,off,none⟩:Addr).add j=⟨b,off+j,none⟩:=by unfold Addr.add;split <;> simp_all
 rw[hadd,h j (by omega),<-hu,eX v j hj]
 simp[hj]
end Go.Proofs.YtjciicheoghcdaaGreatDoor
