/- Part of the proof of FnServiceAnswer. -/
import Derived.Below
import Derived.BigQuiet
import Derived.Deep.DeepCutAuto
import Derived.Deep.Draws
import Derived.Deep.QuietTactic
import Derived.Laws.BitsAllLaws
import Derived.Laws.BitsLemmas
import Derived.Laws.OwnMore
import Derived.Laws.Rows
import Derived.Lib.Hide
import Derived.OneCell
import Derived.Outline
import Derived.ProofKit
import Derived.RowKit
import Derived.Test.YtjciicheoghcdaaGreatDoorRows
import Derived.WalkKit
import Derived.WalkLawsBesides
import Derived.WalkSpells
namespace Go.Proofs.YtjciicheoghcdaaGreatDoor
open Go.RowKit Go.Proofs.Tryz
set_option linter.all false
set_option maxRecDepth 20000
set_option maxHeartbeats 16000000
theorem Qh {p:Prop} (h:p):Hid p:=Lib.hid h
theorem Ql {n:Nat}:n<=n:=Nat.le_refl n
theorem Qb {b:Nat} {w:World}:Below b w w:=Below.refl b w
theorem Qc {P:Program} {f:FuncId} {a:Array Value} {w:World} {e:Ending} {K:Ending->World->Prop} (h:Calls P f a w fun e' w'=>e'=e/\w=w') (k:K e w):Calls P f a w K:=h.mono (by rintro _ _ ⟨rfl,rfl⟩;exact k)
def rv (x:Int):Bool:=decide (0<=x/\x<=4095)
theorem aR {x:Int} (h:0<=x/\x<=4095):rv x=true:=decide_eq_true h
theorem kJ {x:Int} (h:rv x=true):0<=x/\x<=4095:=of_decide_eq_true h
theorem bF {x:Int} (h:¬(0<=x/\x<=4095)):rv x=false:=decide_eq_false h
def inB (x a b:Int):Bool:=decide (a<=x/\x<=b)
theorem vZ {x a b:Int} (h:a<=x/\x<=b):inB x a b=true:=decide_eq_true h
theorem pn {x a b:Int} (h:¬(a<=x/\x<=b)):inB x a b=false:=decide_eq_false h
def aJ (a b:Int):Int:=if rv a=true/\rv b=true then (a+b)%4096 else -1
def bC (a b:Int):Int:=if rv a=true/\rv b=true then (a-b)%4096 else -1
def mulR (a b:Int):Int:=if rv a=true/\rv b=true then (a*b)%4096 else -1
def sgn (x:Int):Int:=if rv x=true then (if 2048<=x then x-4096 else x) else -4096
theorem ns (j:Nat) (hj:j<63) (x:Int):bits .and .i64 x ((2 ^ j-1:Nat):Int)=x%((2 ^ j:Nat):Int):=by
 show IntKind.i64.wrap ((BitVec.ofInt 64 x &&& BitVec.ofInt 64 ((2 ^ j-1:Nat):Int)).toNat:Int)=_
 have hp:2 ^ j<2 ^ 63:=Nat.pow_lt_pow_right (by omega) hj
 have hp0:0<2 ^ j:=Nat.two_pow_pos j;have e1:(BitVec.ofInt 64 ((2 ^ j-1:Nat):Int)).toNat=2 ^ j-1:=by
  rw[BitVec.ofInt_natCast,BitVec.toNat_ofNat];exact Nat.mod_eq_of_lt (by omega)
 rw[BitVec.toNat_and,e1,Nat.and_two_pow_sub_one_eq_mod];have e2:((BitVec.ofInt 64 x).toNat:Int)=x%18446744073709551616:=by
  rw[BitVec.toNat_ofInt];have:(0:Int)<=x%((2 ^ 64:Nat):Int):=Int.emod_nonneg _ (by decide)
  rw[Int.toNat_of_nonneg this];rfl
 have e3:(((BitVec.ofInt 64 x).toNat%2 ^ j:Nat):Int)=x%((2 ^ j:Nat):Int):=by
  rw[Int.natCast_emod,e2];have hd:((2 ^ j:Nat):Int)∣18446744073709551616:=by
   have:(2 ^ j:Nat)∣2 ^ 64:=Nat.pow_dvd_pow 2 (by omega)
   exact Int.natCast_dvd_natCast.mpr this
  exact Int.emod_emod_of_dvd x hd
 rw[e3];have h0:0<=x%((2 ^ j:Nat):Int):=Int.emod_nonneg _ (by omega)
 have h1:x%((2 ^ j:Nat):Int)<((2 ^ j:Nat):Int):=Int.emod_lt_of_pos _ (by omega)
 rw[IntKind.wrap_i64];have:((2 ^ j:Nat):Int)<9223372036854775808:=by
  have:((2 ^ j:Nat):Int)<((2 ^ 63:Nat):Int):=by omega
  simpa using this
 omega
theorem tL (x:Int):bits .and .i64 x 4095=x%4096:=ns 12 (by decide) x
theorem yI (x:Int):bits .and .i64 x 15=x%16:=ns 4 (by decide) x
theorem pP (x:Int):bits .and .i64 x 1=x%2:=ns 1 (by decide) x
theorem AW (x:Int):(x%4096 == x)=rv x:=by
 unfold rv
 by_cases h:0<=x/\x<=4095
 ·rw[decide_eq_true h];simp;omega
 ·rw[decide_eq_false h];simp;omega
theorem zS (x:Int):(bits .and .i64 x 4095 == x)=rv x:=by rw[tL,AW]
theorem vd (x:Int):(Int.tmod x 4096+4096).tmod 4096=x%4096:=by
 have h2:Int.tmod x 4096=x-4096*x.tdiv 4096:=by have:=Int.mul_tdiv_add_tmod x 4096;omega
 have h3: -4096<Int.tmod x 4096:=Int.lt_tmod_of_pos x (by decide)
 rw[Int.tmod_eq_emod_of_nonneg (by omega)]
 omega
theorem iL (x:Int) (w:World):Calls prog 54 #[.int .i64 x] w fun e w'=>e= .returned (.bool (rv x))/\w=w':=by
 have h:=zS x
 go_enter func54,ntmps54
 go_wp2
 go_ret
 exact⟨rfl,rfl⟩
theorem an (x:Int) (hx:0<=x/\x<=4095) (w:World):Calls prog 54 #[.int .i64 x] w fun e w'=>e= .returned (.bool true)/\w=w':=by
 rw[<-aR hx];exact iL x w
theorem bZ (x:Int) (hx:¬(0<=x/\x<=4095)) (w:World):Calls prog 54 #[.int .i64 x] w fun e w'=>e= .returned (.bool false)/\w=w':=by
 rw[<-bF hx];exact iL x w
theorem dK (x:Int) (w:World):Calls prog 180 #[.int .i64 x] w fun e w'=>e= .returned (.int .i64 (x%4096))/\w=w':=by
 have h:=tL x
 go_enter func180,ntmps180
 go_wp2
 go_ret
 exact⟨rfl,rfl⟩
theorem lL (x a b:Int) (w:World):Calls prog 53 #[.int .i64 x,.int .i64 a,.int .i64 b] w fun e w'=>e= .returned (.bool (inB x a b))/\w=w':=by
 by_cases h1:a<=x
 ·by_cases h2:x<=b
  ·rw[vZ ⟨h1,h2⟩]
   go_enter func53,ntmps53
   go_wp2
   go_ret
   exact⟨by simp,rfl⟩
  ·rw[pn (fun h=>h2 h.2)]
   go_enter func53,ntmps53
   go_wp2
   go_ret
   exact⟨by simp,rfl⟩
 ·rw[pn (fun h=>h1 h.1)]
  go_enter func53,ntmps53
  go_wp2
  go_ret
  exact⟨rfl,rfl⟩
theorem iQ (x:Int) (w:World):Calls prog 133 #[.int .i64 x] w fun e w'=>e= .returned (.bool (rv x))/\w=w':=by
 go_enter func133,ntmps133
 go_wp2_with (go_at_call 53;refine Qc (lL _ _ _ _) ?_)
 go_ret
 exact⟨rfl,rfl⟩
theorem ak (x:Int) (hx:0<=x/\x<=4095) (w:World):Calls prog 133 #[.int .i64 x] w fun e w'=>e= .returned (.bool true)/\w=w':=by
 rw[<-aR hx];exact iQ x w
theorem bM (x:Int) (hx:¬(0<=x/\x<=4095)) (w:World):Calls prog 133 #[.int .i64 x] w fun e w'=>e= .returned (.bool false)/\w=w':=by
 rw[<-bF hx];exact iQ x w
theorem bG (x:Int) (w:World):Calls prog 132 #[.int .i64 x] w fun e w'=>e= .returned (.int .i64 (x%4096))/\w=w':=by
 have h:=vd x;have h3: -4096<Int.tmod x 4096:=Int.lt_tmod_of_pos x (by decide)
 have h4:Int.tmod x 4096<4096:=Int.tmod_lt_of_pos x (by decide)
 go_enter func132,ntmps132
 go_wp2
 go_ret
 exact⟨rfl,rfl⟩
theorem iX (x y:Int) (w:World):Calls prog 146 #[.int .i64 x,.int .i64 y] w fun e w'=>e= .returned (.int .i64 (aJ x y))/\w=w':=by
 by_cases h1:0<=x/\x<=4095
 ·by_cases h2:0<=y/\y<=4095
  ·have e:aJ x y=(x+y)%4096:=by simp[aJ,aR h1,aR h2]
   rw[e];obtain⟨a1,a2⟩:=h1;obtain⟨b1,b2⟩:=h2;clear e
   go_enter func146,ntmps146
   go_wp2_with (first|(go_at_call 54;refine Qc (an _ ⟨by omega,by omega⟩ _) ?_)|(go_at_call 180;refine Qc (dK _ _) ?_))
   go_ret
   exact⟨rfl,rfl⟩
  ·have e:aJ x y= -1:=by simp[aJ,bF h2]
   rw[e];clear e
   go_enter func146,ntmps146
   go_wp2_with fail
   refine Qc (an _ h1 _) ?_
   go_wp2_with fail
   refine Qc (bZ _ h2 _) ?_;go_wp2
   go_ret
   exact⟨rfl,rfl⟩
 ·have e:aJ x y= -1:=by simp[aJ,bF h1]
  rw[e];clear e
  go_enter func146,ntmps146
  go_wp2_with (go_at_call 54;refine Qc (bZ _ h1 _) ?_)
  go_ret
  exact⟨rfl,rfl⟩
theorem gD (x y:Int) (w:World):Calls prog 209 #[.int .i64 x,.int .i64 y] w fun e w'=>e= .returned (.int .i64 (bC x y))/\w=w':=by
 by_cases h1:0<=x/\x<=4095
 ·by_cases h2:0<=y/\y<=4095
  ·have e:bC x y=(x-y)%4096:=by simp[bC,aR h1,aR h2]
   rw[e];obtain⟨a1,a2⟩:=h1;obtain⟨b1,b2⟩:=h2;clear e
   go_enter func209,ntmps209
   go_wp2_with (first|(go_at_call 54;refine Qc (an _ ⟨by omega,by omega⟩ _) ?_)|(go_at_call 180;refine Qc (dK _ _) ?_))
   go_ret
   exact⟨rfl,rfl⟩
  ·have e:bC x y= -1:=by simp[bC,bF h2]
   rw[e];clear e
   go_enter func209,ntmps209
   go_wp2_with fail
   refine Qc (an _ h1 _) ?_
   go_wp2_with fail
   refine Qc (bZ _ h2 _) ?_;go_wp2
   go_ret
   exact⟨rfl,rfl⟩
 ·have e:bC x y= -1:=by simp[bC,bF h1]
  rw[e];clear e
  go_enter func209,ntmps209
  go_wp2_with (go_at_call 54;refine Qc (bZ _ h1 _) ?_)
  go_ret
  exact⟨rfl,rfl⟩
theorem uN (x y:Int) (w:World):Calls prog 303 #[.int .i64 x,.int .i64 y] w fun e w'=>e= .returned (.int .i64 (mulR x y))/\w=w':=by
 by_cases h1:0<=x/\x<=4095
 ·by_cases h2:0<=y/\y<=4095
  ·have e:mulR x y=(x*y)%4096:=by simp[mulR,aR h1,aR h2]
   rw[e];obtain⟨a1,a2⟩:=h1;obtain⟨b1,b2⟩:=h2;clear e;have p1:0<=x*y:=Int.mul_nonneg a1 b1;have p2:x*y<=4095*4095:=Int.mul_le_mul a2 b2 b1 (by decide)
   go_enter func303,ntmps303
   go_wp2_with (first|(go_at_call 54;refine Qc (an _ ⟨by omega,by omega⟩ _) ?_)|(go_at_call 180;refine Qc (dK _ _) ?_))
   go_ret
   exact⟨rfl,rfl⟩
  ·have e:mulR x y= -1:=by simp[mulR,bF h2]
   rw[e];clear e
   go_enter func303,ntmps303
   go_wp2_with fail
   refine Qc (an _ h1 _) ?_
   go_wp2_with fail
   refine Qc (bZ _ h2 _) ?_;go_wp2
   go_ret
   exact⟨rfl,rfl⟩
 ·have e:mulR x y= -1:=by simp[mulR,bF h1]
  rw[e];clear e
  go_enter func303,ntmps303
  go_wp2_with (go_at_call 54;refine Qc (bZ _ h1 _) ?_)
  go_ret
  exact⟨rfl,rfl⟩
theorem pG (x y:Int) (w:World):Calls prog 142 #[.int .i64 x,.int .i64 y] w fun e w'=>e= .returned (.int .i64 (aJ x y))/\w=w':=by
 by_cases h1:0<=x/\x<=4095
 ·by_cases h2:0<=y/\y<=4095
  ·have e:aJ x y=(x+y)%4096:=by simp[aJ,aR h1,aR h2]
   rw[e];obtain⟨a1,a2⟩:=h1;obtain⟨b1,b2⟩:=h2;clear e
   go_enter func142,ntmps142
   go_wp2_with (first|(go_at_call 133;refine Qc (ak _ ⟨by omega,by omega⟩ _) ?_)|(go_at_call 132;refine Qc (bG _ _) ?_))
   go_ret
   exact⟨rfl,rfl⟩
  ·have e:aJ x y= -1:=by simp[aJ,bF h2]
   rw[e];clear e
   go_enter func142,ntmps142
   go_wp2_with fail
   refine Qc (ak _ h1 _) ?_
   go_wp2_with fail
   refine Qc (bM _ h2 _) ?_;go_wp2
   go_ret
   exact⟨rfl,rfl⟩
 ·have e:aJ x y= -1:=by simp[aJ,bF h1]
  rw[e];clear e
  go_enter func142,ntmps142
  go_wp2_with (go_at_call 133;refine Qc (bM _ h1 _) ?_)
  go_ret
  exact⟨rfl,rfl⟩
theorem vj (x y:Int) (w:World):Calls prog 137 #[.int .i64 x,.int .i64 y] w fun e w'=>e= .returned (.int .i64 (bC x y))/\w=w':=by
 by_cases h1:0<=x/\x<=4095
 ·by_cases h2:0<=y/\y<=4095
  ·have e:bC x y=(x-y)%4096:=by simp[bC,aR h1,aR h2]
   rw[e];obtain⟨a1,a2⟩:=h1;obtain⟨b1,b2⟩:=h2;clear e
   go_enter func137,ntmps137
   go_wp2_with (first|(go_at_call 133;refine Qc (ak _ ⟨by omega,by omega⟩ _) ?_)|(go_at_call 132;refine Qc (bG _ _) ?_))
   go_ret
   exact⟨rfl,rfl⟩
  ·have e:bC x y= -1:=by simp[bC,bF h2]
   rw[e];clear e
   go_enter func137,ntmps137
   go_wp2_with fail
   refine Qc (ak _ h1 _) ?_
   go_wp2_with fail
   refine Qc (bM _ h2 _) ?_;go_wp2
   go_ret
   exact⟨rfl,rfl⟩
 ·have e:bC x y= -1:=by simp[bC,bF h1]
  rw[e];clear e
  go_enter func137,ntmps137
  go_wp2_with (go_at_call 133;refine Qc (bM _ h1 _) ?_)
  go_ret
  exact⟨rfl,rfl⟩
theorem pH (x y:Int) (w:World):Calls prog 265 #[.int .i64 x,.int .i64 y] w fun e w'=>e= .returned (.int .i64 (mulR x y))/\w=w':=by
 by_cases h1:0<=x/\x<=4095
 ·by_cases h2:0<=y/\y<=4095
  ·have e:mulR x y=(x*y)%4096:=by simp[mulR,aR h1,aR h2]
   rw[e];obtain⟨a1,a2⟩:=h1;obtain⟨b1,b2⟩:=h2;clear e;have p1:0<=x*y:=Int.mul_nonneg a1 b1;have p2:x*y<=4095*4095:=Int.mul_le_mul a2 b2 b1 (by decide)
   go_enter func265,ntmps265
   go_wp2_with (first|(go_at_call 133;refine Qc (ak _ ⟨by omega,by omega⟩ _) ?_)|(go_at_call 132;refine Qc (bG _ _) ?_))
   go_ret
   exact⟨rfl,rfl⟩
  ·have e:mulR x y= -1:=by simp[mulR,bF h2]
   rw[e];clear e
   go_enter func265,ntmps265
   go_wp2_with fail
   refine Qc (ak _ h1 _) ?_
   go_wp2_with fail
   refine Qc (bM _ h2 _) ?_;go_wp2
   go_ret
   exact⟨rfl,rfl⟩
 ·have e:mulR x y= -1:=by simp[mulR,bF h1]
  rw[e];clear e
  go_enter func265,ntmps265
  go_wp2_with (go_at_call 133;refine Qc (bM _ h1 _) ?_)
  go_ret
  exact⟨rfl,rfl⟩
def Bytes (w:World) (B:Nat) (A:Option Addr) (len:Nat):Prop :=
 0<len->∃ b off:Nat,A=some ⟨b,off,none⟩/\b<B/\∀ i,i<len->∃ v:Int,0<=v/\v<=255/\w.cell? ⟨b,off+i,none⟩=some (.int .u8 v)
theorem Bytes.au {w w':World} {B:Nat} {A:Option Addr} {len:Nat} (h:Bytes w B A len) (hk:∀ k,k<B->w'.heap[k]?=w.heap[k]?):Bytes w' B A len:=fun hl=>by
 obtain⟨b,off,e,hb,hc⟩:=h hl;refine⟨b,off,e,hb,fun i hi=>?_⟩
 obtain⟨v,v0,v1,hv⟩:=hc i hi
 exact⟨v,v0,v1,(World.cell?_of_block (w:=w) (hk b hb)).trans hv⟩
theorem Bytes.mono {w:World} {B B':Nat} {A:Option Addr} {len:Nat} (h:Bytes w B A len) (hB:B<=B'):Bytes w B' A len:=fun hl=>by
 obtain⟨b,off,e,hb,hc⟩:=h hl
 exact⟨b,off,e,by omega,hc⟩
theorem Bytes.less {w:World} {B:Nat} {A:Option Addr} {len len':Nat} (h:Bytes w B A len) (hl:len'<=len):Bytes w B A len':=fun h0=>by
 obtain⟨b,off,e,hb,hc⟩:=h (by omega)
 exact⟨b,off,e,hb,fun i hi=>hc i (by omega)⟩
def Rd (w:World) (rb P:Nat):Prop:=∃ (A:Option Addr) (len cap p:Nat),w.heap[rb]?=some (.cells #[.slice A len cap,.int .i64 (p:Int)] 116 (0,0))/\p<=P/\len<=2000/\Bytes w rb A len
theorem Rd.lt {w:World} {rb P:Nat} (h:Rd w rb P):rb<w.heap.size:=by
 obtain⟨A,len,cap,p,hb,_⟩:=h;rcases Nat.lt_or_ge rb w.heap.size with h|h
 ·exact h
 ·rw[Array.getElem?_eq_none h] at hb;cases hb
theorem Rd.mono {w:World} {rb P P':Nat} (h:Rd w rb P) (hP:P<=P'):Rd w rb P':=by
 obtain⟨A,len,cap,p,hb,hp,hr⟩:=h
 exact⟨A,len,cap,p,hb,by omega,hr⟩
theorem Rd.au {w w':World} {rb P:Nat} (h:Rd w rb P) (hk:∀ k,k<=rb->w'.heap[k]?=w.heap[k]?):Rd w' rb P:=by
 obtain⟨A,len,cap,p,hb,hp,hl,hr⟩:=h
 exact⟨A,len,cap,p,(hk rb Ql).trans hb,hp,hl,hr.au fun k h=>hk k (by omega)⟩
theorem Rd.below {w w':World} {rb P:Nat} (h:Rd w rb P) (hb:Below w.heap.size w w'):Rd w' rb P:=h.au fun k hk=>hb.block k (by have:=h.lt;omega)
theorem Rd.alloc {w:World} {rb P:Nat} (h:Rd w rb P) (o:Obj):Rd (w.alloc o) rb P:=h.au fun k hk=>Below.heap_alloc w o k (by have:=h.lt;omega)
theorem Rd.drew {w:World} {rb P:Nat} (h:Rd w rb P):Rd w.drew rb P:=h
theorem Rd.drewN {w:World} {rb P:Nat} (h:Rd w rb P) (n:Nat):Rd (w.drewN n) rb P:=h
theorem Rd.setCell {w:World} {rb P:Nat} (h:Rd w rb P) {a:Addr} (ha:rb<a.block) (u:Value):Rd (w.setCell a u) rb P:=h.au fun k hk=>Below.heap_setCell w a u k (by omega)
def aZ (rb:Nat) (w w':World):Prop:=w.grownBy w' (some rb)
theorem aZ.refl (rb:Nat) (w:World):aZ rb w w:=World.grownBy.refl w _
theorem aZ.trans {rb:Nat} {a b c:World} (h:aZ rb a b) (k:aZ rb b c):aZ rb a c :=
 ⟨k.os.trans h.os,k.tape.trans h.tape,k.output.trans h.output,Nat.le_trans h.size k.size,fun i hi hne=>(k.block i (Nat.lt_of_lt_of_le hi h.size) hne).trans (h.block i hi hne)⟩
theorem aZ.drew {rb:Nat} {a w:World} (h:aZ rb a w):aZ rb a w.drew:=⟨h.os,h.tape,h.output,h.size,h.block⟩
theorem aZ.drewN {rb:Nat} {a w:World} (h:aZ rb a w) (n:Nat):aZ rb a (w.drewN n):=⟨h.os,h.tape,h.output,h.size,h.block⟩
theorem aZ.alloc {rb:Nat} {a w:World} (h:aZ rb a w) (o:Obj):aZ rb a (w.alloc o) :=
 ⟨h.os,h.tape,h.output,Nat.le_trans h.size (by simp),fun i hi hne=>(Below.heap_alloc w o i (Nat.lt_of_lt_of_le hi h.size)).trans (h.block i hi hne)⟩
theorem aZ.setCell {rb:Nat} {a w:World} (h:aZ rb a w) {p:Addr} (hp:p.block=rb\/a.heap.size<=p.block) (u:Value):aZ rb a (w.setCell p u) :=
 ⟨h.os,h.tape,h.output,by simpa [World.setCell] using h.size,fun i hi hne=>(Below.heap_setCell w p u i (by
  rintro rfl;rcases hp with hp|hp
  ·exact hne (by rw[hp])
  ·omega)).trans (h.block i hi hne)⟩
theorem aZ.below {rb:Nat} {a b c:World} (h:aZ rb a b) (k:Below b.heap.size b c):aZ rb a c:=h.trans ⟨k.os,k.tape,k.output,k.size,fun i hi _=>k.block i hi⟩
theorem aZ.cell {rb:Nat} {w w':World} (h:aZ rb w w') {b o:Nat} (hb:b<w.heap.size) (hne:b≠rb):w'.cell? ⟨b,o,none⟩=w.cell? ⟨b,o,none⟩ :=
 World.cell?_of_block (w:=w) (a:=⟨b,o,none⟩) (h.block b hb (fun e=>hne (by injection e)))
theorem aZ.frozen {rb:Nat} {w w':World} (h:aZ rb w w') {b o:Nat} (hb:b<w.heap.size) (hne:b≠rb):w'.frozen? ⟨b,o,none⟩=w.frozen? ⟨b,o,none⟩ :=
 World.frozen?_of_block (w:=w) (a:=⟨b,o,none⟩) (h.block b hb (fun e=>hne (by injection e)))
theorem aZ.toBelow {rb B:Nat} {w w':World} (h:aZ rb w w') (h1:B<=rb) (h2:B<=w.heap.size):Below B w w' :=
 ⟨h.os,h.tape,h.output,h.size,fun k hk=>h.block k (by omega) (fun e=>by injection e;omega)⟩
theorem Rd.only {w w':World} {rb rb' P:Nat} (h:Rd w rb P) (ho:aZ rb' w w') (hr:rb<rb'):Rd w' rb P:=h.au fun k hk=>ho.block k (by have:=h.lt;omega) (fun e=>by injection e;omega)
theorem GQ (a b:Nat) (ha:a<9223372036854775808) (hb:b<9223372036854775808):bits .xor .i64 (a:Int) (b:Int)=((a ^^^ b:Nat):Int):=by
 have hx:a ^^^ b<2 ^ 63:=Nat.xor_lt_two_pow (by omega) (by omega)
 show IntKind.i64.wrap ((BitVec.ofInt 64 (a:Int) ^^^ BitVec.ofInt 64 (b:Int)).toNat:Int)=_
 have ea:(BitVec.ofInt 64 (a:Int)).toNat=a:=by rw[BitVec.ofInt_natCast,BitVec.toNat_ofNat];exact Nat.mod_eq_of_lt (by omega)
 have eb:(BitVec.ofInt 64 (b:Int)).toNat=b:=by rw[BitVec.ofInt_natCast,BitVec.toNat_ofNat];exact Nat.mod_eq_of_lt (by omega)
 rw[BitVec.toNat_xor,ea,eb,IntKind.wrap_i64]
 omega
theorem EE (a b:Int) (h1:0<=a) (h2:a<9223372036854775808) (h3:0<=b) (h4:b<9223372036854775808):0<=bits .xor .i64 a b:=by
 obtain⟨A,rfl⟩:=Int.eq_ofNat_of_zero_le h1;obtain⟨B,rfl⟩:=Int.eq_ofNat_of_zero_le h3;rw[GQ A B (by omega) (by omega)]
 omega
def Pk (w:World) (rb P:Nat) (n:Int) (e:Ending) (w':World):Prop:=∃ v:Int,e= .returned (.int .i64 v)/\0<=v/\(v<n\/v=0)/\Rd w' rb P/\aZ rb w w'
theorem DR {w:World} {rb P:Nat} {A:Option Addr} {len cap p:Nat} (hb:w.heap[rb]?=some (.cells #[.slice A len cap,.int .i64 (p:Int)] 116 (0,0))) (hp:p<=P) (hl:len<=2000) (hr:Bytes w rb A len) (k:Nat) :
  Rd ((w.setCell ⟨rb,1,none⟩ (.int .i64 ((p:Int)+1))).drewN k) rb (P+1)/\aZ rb w ((w.setCell ⟨rb,1,none⟩ (.int .i64 ((p:Int)+1))).drewN k):=by
 refine⟨Rd.drewN ⟨A,len,cap,p+1,?_,by omega,hl,hr.au fun k hk=>Below.heap_setCell w _ _ k (by dsimp only;omega)⟩ k,aZ.drewN ((aZ.refl rb w).setCell (.inl rfl) _) k⟩
 simp[World.setCell,Array.getElem?_modify,hb]
theorem EK (rb P:Nat) (n:Int) (hn:n<1) (w:World) (h:Rd w rb P) (hP:P<1099511627776):Calls prog 71 #[.pointer (some ⟨rb,0,none⟩),.int .i64 n] w (Pk w rb (P+1) n):=by
 obtain⟨A,len,cap,p,hb,hp,hl,hr⟩:=h;have c0:w.cell? ⟨rb,0,none⟩=some (.slice A len cap):=by simp[World.cell?,hb]
 have c1:w.cell? ⟨rb,1,none⟩=some (.int .i64 (p:Int)):=by simp[World.cell?,hb]
 have f1:w.frozen? ⟨rb,1,none⟩=false:=by simp[World.frozen?,hb]
 have q1:(p:Int)<=1099511627776:=by omega
 have HS:=Qh (DR hb hp hl hr 0);clear hb hr hp
 go_enter func71,ntmps71
 go_wp2
 go_ret
 exact⟨0,rfl,by omega,.inr rfl,HS.out.1,HS.out.2⟩
theorem EA (rb P:Nat) (n:Int) (hn:1<=n) (w:World) (A:Option Addr) (cap p:Nat) (hb:w.heap[rb]?=some (.cells #[.slice A 0 cap,.int .i64 (p:Int)] 116 (0,0))) (hp:p<=P) (hr:Bytes w rb A 0) (hP:P<1099511627776) :
  Calls prog 71 #[.pointer (some ⟨rb,0,none⟩),.int .i64 n] w (Pk w rb (P+1) n):=by
 have c0:w.cell? ⟨rb,0,none⟩=some (.slice A 0 cap):=by simp[World.cell?,hb]
 have c1:w.cell? ⟨rb,1,none⟩=some (.int .i64 (p:Int)):=by simp[World.cell?,hb]
 have f1:w.frozen? ⟨rb,1,none⟩=false:=by simp[World.frozen?,hb]
 have q1:(p:Int)<=1099511627776:=by omega
 have HS:=Qh (DR hb hp (by omega) hr 0)
 clear hb hr hp
 go_enter func71,ntmps71
 go_wp2
 go_ret
 exact⟨0,rfl,by omega,.inr rfl,HS.out.1,HS.out.2⟩
theorem EJ (rb P:Nat) (n:Int) (hn:1<=n) (w:World) (b off len cap p:Nat) (hb:w.heap[rb]?=some (.cells #[.slice (some ⟨b,off,none⟩) len cap,.int .i64 (p:Int)] 116 (0,0))) (hp:p<=P) (hl:len<=2000) (hr:Bytes w rb (some ⟨b,off,none⟩) len) (hP:P<1099511627776)
  (hlt:p<len):Calls prog 71 #[.pointer (some ⟨rb,0,none⟩),.int .i64 n] w (Pk w rb (P+1) n):=by
 obtain⟨b',off',e,hbr,hc⟩:=hr (by omega)
 injection e with e;injection e with e1 e2;subst e1 e2;obtain⟨v,v0,v1,hv⟩:=hc p hlt;have c0:w.cell? ⟨rb,0,none⟩=some (.slice (some ⟨b,off,none⟩) len cap):=by simp[World.cell?,hb]
 have c1:w.cell? ⟨rb,1,none⟩=some (.int .i64 (p:Int)):=by simp[World.cell?,hb]
 have f1:w.frozen? ⟨rb,1,none⟩=false:=by simp[World.frozen?,hb]
 have q1:(p:Int)<=1099511627776:=by omega
 have hne:¬b=rb:=by omega
 have hne':¬rb=b:=by omega
 have hle:((len:Int) == 0)=false:=by simp;omega
 have HS:=Qh (DR hb hp (by omega) hr 0)
 have m1:0<=v%n:=Int.emod_nonneg _ (by omega)
 have m2:v%n<n:=Int.emod_lt_of_pos _ (by omega)
 clear hb hr hp hc
 go_enter func71,ntmps71
 go_wp2
 go_ret
 exact⟨_,rfl,m1,.inl m2,HS.out.1,HS.out.2⟩
theorem EU (rb P:Nat) (n:Int) (hn:1<=n) (w:World) (b off len cap p:Nat) (hb:w.heap[rb]?=some (.cells #[.slice (some ⟨b,off,none⟩) len cap,.int .i64 (p:Int)] 116 (0,0))) (hp:p<=P) (hl:len<=2000) (hr:Bytes w rb (some ⟨b,off,none⟩) len) (hP:P<1099511627776)
  (hge:len<=p) (hl0:0<len):Calls prog 71 #[.pointer (some ⟨rb,0,none⟩),.int .i64 n] w (Pk w rb (P+1) n):=by
 obtain⟨b',off',e,hbr,hc⟩:=hr hl0;injection e with e;injection e with e1 e2;subst e1 e2;have hk1:p%len<len:=Nat.mod_lt _ hl0;have hk2:(p*7+3)%len<len:=Nat.mod_lt _ hl0;obtain⟨v1,v10,v11,hv1⟩:=hc _ hk1;obtain⟨v2,v20,v21,hv2⟩:=hc _ hk2;have c0:w.cell? ⟨rb,0,none⟩=some (.slice (some ⟨b,off,none⟩) len cap):=by simp[World.cell?,hb]
 have c1:w.cell? ⟨rb,1,none⟩=some (.int .i64 (p:Int)):=by simp[World.cell?,hb]
 have f1:w.frozen? ⟨rb,1,none⟩=false:=by simp[World.frozen?,hb]
 have q1:(p:Int)<=1099511627776:=by omega
 have hne:¬b=rb:=by omega
 have hne':¬rb=b:=by omega
 have hle:((len:Int) == 0)=false:=by simp;omega
 have HS:=Qh (DR hb hp (by omega) hr)
 have i3:((p:Int)*7+3)%(len:Int)=((p*7+3)%len:Nat):=by rw[Int.natCast_emod];congr 1
 have i0:0<=((p:Int)*7+3)%(len:Int):=by rw[i3];omega
 have i1:((p:Int)*7+3)%(len:Int)<(len:Int):=by rw[i3];omega
 have i2:(((p:Int)*7+3)%(len:Int)).toNat=(p*7+3)%len:=by rw[i3];omega
 clear i3;have d0:0<=(p:Int)/(len:Int):=Int.ediv_nonneg (by omega) (by omega)
 have d1:(p:Int)/(len:Int)<=(p:Int):=Int.ediv_le_self _ (by omega)
 have hx:=EE (v1*131+v2*1117+(p:Int)*29+(p:Int)/(len:Int)*53) ((v1*131+v2*1117+(p:Int)*29+(p:Int)/(len:Int)*53)/64) (by omega) (by omega) (by omega) (by omega)
 have m1:=Int.emod_nonneg (bits .xor .i64 (v1*131+v2*1117+(p:Int)*29+(p:Int)/(len:Int)*53) ((v1*131+v2*1117+(p:Int)*29+(p:Int)/(len:Int)*53)/64)) (b:=n) (by omega)
 have m2:=Int.emod_lt_of_pos (bits .xor .i64 (v1*131+v2*1117+(p:Int)*29+(p:Int)/(len:Int)*53) ((v1*131+v2*1117+(p:Int)*29+(p:Int)/(len:Int)*53)/64)) (b:=n) (by omega)
 clear hb hr hp hc
 go_enter func71,ntmps71
 go_upto_region 7 with fail
 go_quiet (fail)
 go_wp2
 go_ret
 exact⟨_,rfl,m1,.inl m2,(HS.out _).1,(HS.out _).2⟩
theorem FE (rb P:Nat) (n:Int) (w:World) (h:Rd w rb P) (hP:P<1099511627776):Calls prog 71 #[.pointer (some ⟨rb,0,none⟩),.int .i64 n] w (Pk w rb (P+1) n):=by
 by_cases hn:n<1
 ·exact EK rb P n hn w h hP
 ·obtain⟨A,len,cap,p,hb,hp,hl,hr⟩:=h;rcases Nat.eq_zero_or_pos len with h0|h0
  ·subst h0
   exact EA rb P n (by omega) w A cap p hb hp hr hP
  ·obtain⟨b,off,rfl,_⟩:=hr h0
   by_cases hlt:p<len
   ·exact EJ rb P n (by omega) w b off len cap p hb hp hl hr hP hlt
   ·exact EU rb P n (by omega) w b off len cap p hb hp hl hr hP (by omega) h0
def Od (w:World) (rb P:Nat) (e:Ending) (w':World):Prop:=∃ v:Bool,e= .returned (.bool v)/\Rd w' rb P/\aZ rb w w'
theorem EG (rb P:Nat) (n:Int) (hn:0<=n/\n<=1000000) (w:World) (h:Rd w rb P) (hP:P<1099511627776):Calls prog 72 #[.pointer (some ⟨rb,0,none⟩),.int .i64 n] w (Od w rb (P+1)):=by
 obtain⟨n0,n1⟩:=hn
 by_cases hn:0<n
 ·go_enter func72,ntmps72
  go_wp2_with fail
  refine(FE rb P n w h hP).mono ?_;rintro e w1 ⟨v,rfl,v0,v1,hr,ho⟩;clear h;have HR:=Qh hr;have HO:=Qh ho;clear hr ho v1
  cases hv:v == n-1
  all_goals
   go_wp2
   go_ret
   exact⟨_,rfl,HR.out,HO.out⟩
 ·have h':=Qh (h.mono (Nat.le_succ P));clear h
  go_enter func72,ntmps72
  go_wp2
  go_ret
  exact⟨_,rfl,h'.out,aZ.refl _ _⟩
def Opn (w:World) (e:Ending) (w':World):Prop:=e= .returned (.pointer (some ⟨w.heap.size,0,none⟩))/\Rd w' w.heap.size 0/\Below w.heap.size w w'/\w.heap.size<w'.heap.size
theorem EM (A:Option Addr) (len cap:Nat) (w:World) (hl:len<=cap) (hm:cap<=maxLen) (hr:Bytes w w.heap.size A len) (h0:A=none->cap=0):Calls prog 31 #[.slice A len cap] w (Opn w):=by
 unfold maxLen at hm
 by_cases h:2000<len
 ·have HB:=Qh (hr.less (len':=2000) (by omega))
  obtain⟨b,off,rfl,_⟩:=hr (by omega)
  clear hr h0;have hcap:¬cap<2000:=by omega
  go_enter func31,ntmps31
  go_wp2
  go_ret
  refine⟨rfl,⟨_,2000,cap,0,heap_alloc_new w _,by omega,by omega,HB.out.au fun k hk=>Below.heap_alloc w _ k hk⟩,Qb.alloc Ql _,by simp⟩
 ·have HB:=Qh hr;clear hr h0
  go_enter func31,ntmps31
  go_wp2
  go_ret
  refine⟨rfl,⟨_,len,cap,0,heap_alloc_new w _,by omega,by omega,HB.out.au fun k hk=>Below.heap_alloc w _ k hk⟩,Qb.alloc Ql _,by simp⟩
section
def Blk (w:World) (g:Nat) (t:TypeId) (cs:Array Value):Prop:=w.heap[g]?=some (.cells cs t (0,0))
section
variable {w w':World} {g:Nat} {t:TypeId} {cs:Array Value}
theorem Blk.lt (h:Blk w g t cs):g<w.heap.size:=by
 rcases Nat.lt_or_ge g w.heap.size with hlt|hge
 ·exact hlt
 ·unfold Blk at h;rw[Array.getElem?_eq_none hge] at h;cases h
theorem Blk.cell (h:Blk w g t cs) (i:Nat):w.cell? ⟨g,i,none⟩=cs[i]?:=cell_of_row w g i cs t (0,0) h
theorem Blk.frozen (h:Blk w g t cs) (i:Nat):w.frozen? ⟨g,i,none⟩=false:=by
 unfold Blk at h
 simp[World.frozen?,h]
theorem Blk.new (w:World) (t:TypeId) (cs:Array Value):Blk (w.alloc (.cells cs t)) w.heap.size t cs:=heap_alloc_new w _
theorem Blk.drew (h:Blk w g t cs):Blk w.drew g t cs:=h
theorem Blk.drewN (h:Blk w g t cs) (n:Nat):Blk (w.drewN n) g t cs:=h
theorem Blk.alloc (h:Blk w g t cs) (o:Obj):Blk (w.alloc o) g t cs:=(Below.heap_alloc w o g h.lt).trans h
theorem Blk.dc (h:Blk w g t cs) (i:Nat) (u:Value):Blk (w.setCell ⟨g,i,none⟩ u) g t (cs.setIfInBounds i u):=by
 unfold Blk at h ⊢
 simp[World.setCell,Array.getElem?_modify,h]
theorem Blk.far (h:Blk w g t cs) {p:Addr} (hp:g≠p.block) (u:Value):Blk (w.setCell p u) g t cs:=(Below.heap_setCell w p u g hp).trans h
theorem Blk.below {B:Nat} (h:Blk w g t cs) (hb:Below B w w') (hg:g<B):Blk w' g t cs:=(hb.block g hg).trans h
theorem Blk.aa (h:Blk w g t cs) (hb:Below w.heap.size w w'):Blk w' g t cs:=h.below hb h.lt
theorem Blk.only {rb:Nat} (h:Blk w g t cs) (ho:aZ rb w w') (hne:g≠rb):Blk w' g t cs:=(ho.block g h.lt (fun e=>hne (by injection e))).trans h
end
theorem aZ.eW {rb:Nat} {a b:World} (k:Below a.heap.size a b):aZ rb a b:=⟨k.os,k.tape,k.output,k.size,fun i hi _=>k.block i hi⟩
theorem Ha {W w1:World} {B:Nat} (hb:Below B W w1):(∀ b o,b<B->w1.cell? ⟨b,o,none⟩=W.cell? ⟨b,o,none⟩)/\(∀ b o,b<B->w1.frozen? ⟨b,o,none⟩=W.frozen? ⟨b,o,none⟩) :=
 ⟨fun b o h=>hb.cell (p:=⟨b,o,none⟩) h,fun b o h=>hb.frozen (p:=⟨b,o,none⟩) h⟩
end
structure Wd (S:World->Prop) where
 w:World
 h:S w
theorem aS {P:Program} {id:Nat} {Q:Exit->Act->World->Prop} {a:Act} {w:World} {l:List Oper} (S:World->Prop) (hm:P.follows .mixedOrders=true) (hB:Region.lexB .any l.toArray=true) (hC:S w.drew)
  (h:Nonempty (Wd S)->wpQuiet P l.toArray (fun w'=>∃ x:Wd S,w'=x.w) (fun a'=>∀ w',(∃ x:Wd S,w'=x.w)->Q .normal a' w') l a):(Code.region id l.toArray true).wp P Q a w :=
 wp_region_quiet (C:=fun w'=>∃ x:Wd S,w'=x.w) hm hB ⟨⟨w.drew,hC⟩,rfl⟩ (by simpa using h ⟨⟨w.drew,hC⟩⟩)
theorem d_ {P:Program} {B:Nat} {U:World} {f:FuncId} {args:Array Value} {v:Value} (x:Wd (fun w'=>Below B U w')) (hB:B<=U.heap.size) (h:Calls P f args x.w fun e w'=>e= .returned v/\Below x.w.heap.size x.w w') :
  Calls P f args x.w fun e w''=>e= .returned v/\∃ y:Wd (fun w'=>Below B U w'),w''=y.w :=
 h.mono fun _ w' ⟨he,hb⟩=>⟨he,⟨w',x.h.trans (hb.mono (Nat.le_trans hB x.h.size))⟩,rfl⟩
section
def bK (X:TypeId->Bool) (o:Oper):Bool :=
 match o.op with
 | .load ty _=> !X ty
 | .move _ | .assign _ | .fieldAddr .. | .indexAddr .. | .field .. | .index .. | .binOp .. | .unOp .. | .convert .. | .slice .. | .extract .. | .makeInterface .. | .makeFunc .. | .build .. => true
 | .call c=>(match c.callee with | .builtin .len=>true | .builtin .cap=>true|_=>false)
 | _=>false
theorem xu {P:Program} {s:Sem Value} {w w':World} {f:FuncId} {args:Array Value} (h:(do let x <-s;pure (Next.value x):Sem Next).run P w= .ok (.enter f args) w'):False:=by
 rw[Sem.run_bind] at h
 cases hs:s.run P w with
 | ok x w2=>rw[hs] at h;simp at h
 | halt x w2=>rw[hs] at h;simp at h
theorem pQ {X:TypeId->Bool} {o:Oper} (hc:bK X o=true) {ρ:Operand->Value} {P:Program} {w w':World} {f:FuncId} {args:Array Value} (h:(execOp ρ o).run P w= .ok (.enter f args) w'):False:=by
 obtain⟨dst,op,type,pos,after,guard⟩:=o
 cases op <;> simp only[bK] at hc <;> try (cases hc;done)
 case call c =>
  obtain⟨callee,xs,x1⟩:=c
  cases callee <;> simp only at hc <;> try (cases hc;done)
  rename_i b
  cases b <;> simp only at hc <;> try (cases hc;done)
  all_goals
   unfold execOp at h
   dsimp only at h
   rw[Sem.run_bind] at h
   cases hr:(resolve ρ { callee:=_,args:=xs,argTypes:=x1 } type).run P w with
   | halt x w2=>rw[hr] at h;simp at h
   | ok d w2 =>
    rw[hr] at h;simp only[resolve,Sem.run_pure] at hr;injection hr with h1 h2;subst h1 h2;simp only[Result.andThen_ok,invoke,builtin] at h
    exact xu h
 all_goals first
  | exact xu h
  | (simp[execOp] at h;done)
def gives (P:Program) (w:World) (R:Value->World->Prop):Result Next->Prop
 | .ok (.value v) w'=>R v w'
 | .ok .skip w'=>R undef w'
 | .ok (.enter f args) w'=>Calls P f args w' (fun e w''=>∃ v,e= .returned v/\R v w'')
 | _=>False
def Oper.gives (P:Program) (o:Oper) (a:Act) (w:World) (R:Value->World->Prop):Prop:=Proofs.YtjciicheoghcdaaGreatDoor.gives P w R ((execOp a.eval o).run P w)
section
variable {X:TypeId->Bool} {P:Program} {ops:Array Oper} {md:Region.Mode} {C:World->Prop} {Q:Act->World->Prop} {w:World} {a:Act} {o oi oj:Oper} {R R':Value->World->Prop}
theorem cf {r:Result Next} (h:∀ v w',R v w'->R' v w') (hh:gives P w R r):gives P w R' r:=by
 unfold gives at *
 split at hh
 ·exact h _ _ hh
 ·exact h _ _ hh
 ·exact hh.mono fun e w'' ⟨v,he,hv⟩=>⟨v,he,h _ _ hv⟩
 ·exact hh.elim
theorem g_ {r:Result Next} (hh:gives P w R r):∃ v w',R v w':=by
 unfold gives at hh
 split at hh
 ·exact⟨_,_,hh⟩
 ·exact⟨_,_,hh⟩
 ·obtain⟨e,w',fr,⟨v,_,hv⟩,_⟩:=hh []
  exact⟨_,_,hv⟩
 ·exact hh.elim
theorem mo {Q':Exit->Act->World->Prop} {K:Act->World->Prop} (hh:Oper.gives P o a w (fun v w'=>K (a.put o.dst v) w')):o.wp P a w K Q':=by
 unfold Oper.gives gives at hh;unfold Oper.wp
 split at hh
 ·rename_i h;rw[h];exact hh
 ·rename_i h;rw[h];exact hh
 ·rename_i h;rw[h];exact hh.mono fun e w'' ⟨v,he,hv⟩=>by subst he;exact hv
 ·exact hh.elim
def lOp (X:TypeId->Bool) (P:Program) (ops:Array Oper) (C:World->Prop) (i:Nat) (K:Act->World->Prop) (a:Act) (w:World):Prop :=
 match ops[i]? with
 | none=>K a w
 | some o=>if Region.wanted o (yielded ops a.tmps) then (if bK X o then o.quiet P a C (fun a'=>K a' w) else Oper.gives P o a w (fun v w'=>K (a.put o.dst v) w')) else K (a.put o.dst undef) w
def eQ (X:TypeId->Bool) (P:Program) (md:Region.Mode) (ops:Array Oper) (C:World->Prop) (L:Nat) (Q:Act->World->Prop):Nat->Array Bool->Act->World->Prop
 | 0,listed,a,w=>Region.ready md ops listed=[]/\Q a w
 | fuel+1,listed,a,w=>(Region.ready md ops listed=[]->Q a w)/\∀ i∈Region.ready md ops listed,lOp X P ops C i (fun a' w'=>(i≠L->C w')/\eQ X P md ops C L Q fuel (listed.setIfInBounds i true) a' w') a w
def closed (md:Region.Mode) (ops:Array Oper) (listed:Array Bool):Prop:=∀ j oj,ops[j]?=some oj->listed.getD j false=true->∀ e∈oj.after,Region.binds md e=true->listed.getD e.on false=true
theorem closed.set {j:Nat} {listed:Array Bool} (h:closed md ops listed) (hj:j∈Region.ready md ops listed):closed md ops (listed.setIfInBounds j true):=fun k ok hk hl e he hb=>by
 apply getD_set_true
 by_cases hjk:j=k
 ·subst hjk;obtain⟨_,oj,hoj,hall⟩:=mem_ready.1 hj;rw[hk] at hoj;injection hoj with hoj;subst hoj
  exact hall e he hb
 ·rw[getD_set_ne false hjk] at hl
  exact h k ok hk hl e he hb
theorem closed.none (n:Nat):closed md ops (Array.replicate n false):=fun j oj _ hl=>by simp[Array.getD] at hl
def ju (md:Region.Mode) (ops:Array Oper) (L:Nat):Prop:=∀ listed,closed md ops listed->L∈Region.ready md ops listed->∀ i,i<ops.size->i≠L->listed.getD i false=true
theorem sM {i:Nat} {K K':Act->World->Prop} {Q':Exit->Act->World->Prop} (hw:C w) (h:∀ a w',K a w'->K' a w') (hh:lOp X P ops C i K a w):wpOp P ops Q' i K' a w:=by
 unfold lOp at hh;unfold wpOp
 split
 ·rename_i ho;simp only[ho] at hh;exact h _ _ hh
 ·rename_i o ho
  simp only[ho] at hh
  split
  ·rename_i hwn
   simp only[hwn,if_true] at hh;refine .inl ?_
   split at hh
   ·rename_i hcalm
    obtain⟨v,h1,h2⟩:=hh;have h3:=h1 w hw;unfold Oper.quietAt at h3;unfold Oper.wp
    generalize hr:(execOp a.eval o).run P w=r at *
    cases r with
    | ok n w' =>
     cases n <;> simp only[Oper.quietUpon] at h3 <;> simp only[Oper.upon]
     case value u=>obtain⟨e1,e2⟩:=h3;rw[e1,e2];exact h _ _ h2
     case skip=>obtain⟨e1,e2⟩:=h3;rw[e1,<-e2];exact h _ _ h2
     case enter f args=>exact(pQ hcalm hr).elim
    | halt x w'=>simp only[Oper.quietUpon] at h3
   ·exact mo (cf (fun _ _=>h _ _) hh)
  ·rename_i hwn;simp only[hwn] at hh;exact h _ _ hh
theorem tX {listed:Array Bool} {i:Nat} (h:listed.getD i false=true) (hun:listed.getD i true=false):False:=by
 rcases Nat.lt_or_ge i listed.size with h'|h'
 ·simp[h'] at hun h;rw[hun] at h;cases h
 ·simp[Array.getElem?_eq_none h'] at h
theorem jM {L i:Nat} {listed:Array Bool} (hL:ju md ops L) (hcl:closed md ops listed) (hr:L∈Region.ready md ops listed) (hi:i∈Region.ready md ops listed):i=L:=by
 by_cases h:i=L
 ·exact h
 ·obtain⟨hun,oi,hoi,_⟩:=mem_ready.1 hi
  exact(tX (hL listed hcl hr i (Array.getElem?_eq_some_iff.1 hoi).1 h) hun).elim
theorem nX {L:Nat} {listed:Array Bool} (hL:ju md ops L) (hcl:closed md ops listed) (hr:L∈Region.ready md ops listed):Region.ready md ops (listed.setIfInBounds L true)=[]:=by
 cases hx:Region.ready md ops (listed.setIfInBounds L true) with
 | nil=>rfl
 | cons j t =>
  exfalso
  have hj:j∈Region.ready md ops (listed.setIfInBounds L true):=by rw[hx];exact List.mem_cons_self ..
  obtain⟨hun,oj,hoj,_⟩:=mem_ready.1 hj;obtain⟨hLun,oL,hoL,hall⟩:=mem_ready.1 hr
  by_cases hjL:j=L
  ·subst hjL;have hlt:j<listed.size:=by
    rcases Nat.lt_or_ge j listed.size with h'|h'
    ·exact h'
    ·simp[Array.getElem?_eq_none h'] at hLun
   simp[hlt] at hun
  ·rw[getD_set_ne true (Ne.symm hjL)] at hun
   exact tX (hL listed hcl hr j (Array.getElem?_eq_some_iff.1 hoj).1 hjL) hun
theorem jU {L:Nat} {Q':Exit->Act->World->Prop} (hL:ju md ops L) (hQ:∀ a w,Q a w->Q' .normal a w):∀ (fuel:Nat) (listed:Array Bool) (a:Act) (w:World),closed md ops listed->(C w\/Region.ready md ops listed=[])->eQ X P md ops C L Q fuel listed a w->wpAny P md ops Q' fuel listed a w
 | 0,_,_,_,_,_,h=>⟨h.1,hQ _ _ h.2⟩
 | fuel+1,listed,_,_,hcl,hC,h=>⟨fun h0=>hQ _ _ (h.1 h0),fun i hi=>by
   rcases hC with hC|hC
   ·refine sM hC (fun a' w' hk=>jU hL hQ fuel _ a' w' (hcl.set hi) ?_ hk.2) (h.2 i hi)
    by_cases hiL:i=L
    ·subst hiL;exact .inr (nX hL hcl hi)
    ·exact .inl (hk.1 hiL)
   ·rw[hC] at hi;cases hi⟩
def aX (X:TypeId->Bool) (P:Program) (ops:Array Oper) (C:World->Prop) (o:Oper) (v:Value) (a:Act):Prop :=
 (Region.wanted o (yielded ops a.tmps)=true/\bK X o=true/\∀ w,C w->o.quietAt P a C w v)\/(Region.wanted o (yielded ops a.tmps)=false/\v=undef)
theorem aX.of_same {v:Value} {a':Act} (hy:aX X P ops C o v a) (he:execOp a'.eval o=execOp a.eval o) (hw:Region.wanted o (yielded ops a'.tmps)=Region.wanted o (yielded ops a.tmps)):aX X P ops C o v a':=by
 unfold aX Oper.quietAt at *;rw[he,hw]
 exact hy
theorem aX.op {i:Nat} {v:Value} {K:Act->World->Prop} (hi:ops[i]?=some o) (hy:aX X P ops C o v a) (h:K (a.put o.dst v) w):lOp X P ops C i K a w:=by
 unfold Proofs.YtjciicheoghcdaaGreatDoor.lOp;simp only[hi];rcases hy with⟨hw,hc,hv⟩|⟨hw,rfl⟩
 ·simp only[hw,hc,if_true];exact⟨v,hv,h⟩
 ·simp only[hw,Bool.false_eq_true,if_false];exact h
theorem aX.one {v u:Value} (hw:C w) (h1:aX X P ops C o v a) (h2:aX X P ops C o u a):v=u:=by
 rcases h1 with⟨h1,hc,h1'⟩|⟨h1,h1'⟩ <;> rcases h2 with⟨h2,_,h2'⟩|⟨h2,h2'⟩
 ·have e1:=h1' w hw;have e2:=h2' w hw;unfold Oper.quietAt at e1 e2
  generalize hr:(execOp a.eval o).run P w=r at *
  cases r with
  | ok n w' =>
   cases n <;> simp only[Oper.quietUpon] at e1 e2
   case value x=>rw[<-e1.2,<-e2.2]
   case skip=>rw[e1.2,e2.2]
   case enter f args=>exact(pQ hc hr).elim
  | halt x w'=>simp only[Oper.quietUpon] at e1
 ·rw[h1] at h2;cases h2
 ·rw[h1] at h2;cases h2
 ·rw[h1',h2']
theorem xT {j:Nat} {v:Value} {K:Act->World->Prop} (hj:ops[j]?=some oj) (hap:oi.apart ops oj=true) (hsi:∀ cs b,oi.op≠ .select cs b) (hsj:∀ cs b,oj.op≠ .select cs b)
  (hy:aX X P ops C oi v a) (h:lOp X P ops C j K (a.put oi.dst v) w):lOp X P ops C j (fun a' w'=>aX X P ops C oi v a'/\K (a'.put oi.dst v) w') a w:=by
 obtain⟨h1,h2,h3⟩:=Oper.apart_spec hap;have au:∀ (a:Act),aX X P ops C oi v a->∀ u,aX X P ops C oi v (a.put oj.dst u):=fun a hy u=>hy.of_same (execOp_put oi hsi a oj.dst u h3) (wanted_put oi a oj.dst u h3)
 unfold lOp at *;simp only[hj] at *;rw[wanted_put oj a oi.dst v h1] at h
 split
 ·rename_i hw
  simp only[hw,if_true] at h
  split
  ·rename_i hc
   simp only[hc,if_true] at h;obtain⟨u,hu,hn⟩:=h;refine⟨u,fun w hw'=>?_,au a hy u,by rw[<-Act.put_comm a v u h2];exact hn⟩
   have:=hu w hw';unfold Oper.quietAt at *
   rwa [execOp_put oj hsj a oi.dst v h1] at this
  ·rename_i hc
   simp only[hc] at h;unfold Oper.gives at *;rw[execOp_put oj hsj a oi.dst v h1] at h
   exact cf (fun u w' hk=>⟨au a hy u,by rw[<-Act.put_comm a v u h2];exact hk⟩) h
 ·rename_i hw
  simp only[hw] at h
  exact⟨au a hy _,by rw[<-Act.put_comm a v undef h2];exact h⟩
theorem wq {i:Nat} {K K':Act->World->Prop} (h:∀ a w,K a w->K' a w) (hh:lOp X P ops C i K a w):lOp X P ops C i K' a w:=by
 unfold lOp at *
 split
 ·exact h _ _ (by simpa [*] using hh)
 ·rename_i o ho
  simp only[ho] at hh
  split
  ·rename_i hw
   simp only[hw,if_true] at hh
   split
   ·rename_i hc;simp only[hc,if_true] at hh;exact Oper.quiet_mono (fun _=>h _ _) hh
   ·rename_i hc;simp only[hc] at hh;exact cf (fun _ _=>h _ _) hh
  ·rename_i hw;simp only[hw] at hh;exact h _ _ hh
theorem fh {i j:Nat} {listed:Array Bool} (hr:i∈Region.ready md ops listed) (hall:∀ e∈oj.after,Region.binds md e=true->listed.getD e.on false=true) :
  ∀ e∈oj.after,Region.binds md e=true->e.on≠i:=fun e he hb heq=>by
 have h1:=hall e he hb;have h0:=(mem_ready.1 hr).1;rw[heq] at h1;rcases Nat.lt_or_ge i listed.size with h'|h'
 ·simp[h'] at h0 h1;rw[h0] at h1;cases h1
 ·simp[Array.getElem?_eq_none h'] at h1
theorem eK {i L:Nat} {v:Value} (hL:ju md ops L) (hiL:i≠L) (hi:ops[i]?=some oi) (hsel:∀ (j:Nat) (o:Oper) cs b,ops[j]?=some o->o.op≠ .select cs b) :
  ∀ (fuel:Nat) (listed:Array Bool) (a:Act) (w:World),
   (∀ j oj,ops[j]?=some oj->j≠i->listed.getD j true=false->(∀ e∈oj.after,Region.binds md e=true->e.on≠i)->oi.apart ops oj=true) ->
   closed md ops listed->i∈Region.ready md ops listed->C w->aX X P ops C oi v a ->
   eQ X P md ops C L Q fuel (listed.setIfInBounds i true) (a.put oi.dst v) w->eQ X P md ops C L Q (fuel+1) listed a w:=by
 intro fuel
 induction fuel with
 | zero =>
  intro listed a w _ hcl hr hC hy H;refine⟨fun h=>(by rw[h] at hr;cases hr),fun j hj=>?_⟩
  by_cases hji:j=i
  ·subst hji;exact hy.op hi ⟨fun _=>hC,H⟩
  ·have:=ready_mono hj hji;rw[H.1] at this
   cases this
 | succ fuel ih =>
  intro listed a w hfree hcl hr hC hy H;refine⟨fun h=>(by rw[h] at hr;cases hr),fun j hj=>?_⟩
  by_cases hji:j=i
  ·subst hji;exact hy.op hi ⟨fun _=>hC,H⟩
  ·have hjL:j≠L:=fun e=>by subst e;exact hji (jM hL hcl hj hr).symm
   have h1:=H.2 j (ready_mono hj hji);obtain⟨hjun,oj,hoj,hall⟩:=mem_ready.1 hj;have h2:=xT hoj (hfree j oj hoj hji hjun (fh (j:=j) hr hall)) (fun cs b=>hsel i oi cs b hi) (fun cs b=>hsel j oj cs b hoj) hy h1
   have hfree':∀ k ok,ops[k]?=some ok->k≠i->(listed.setIfInBounds j true).getD k true=false ->
     (∀ e∈ok.after,Region.binds md e=true->e.on≠i)->oi.apart ops ok=true:=fun k ok hk hki hun hno=>by
    refine hfree k ok hk hki ?_ hno
    by_cases hjk:j=k
    ·subst hjk;exact hjun
    ·rw[getD_set_ne true hjk] at hun;exact hun
   refine wq (fun a' w' h3=>⟨fun _=>h3.2.1 hjL,ih (listed.setIfInBounds j true) a' w' hfree' (hcl.set hj) (ready_mono hr (Ne.symm hji)) (h3.2.1 hjL) h3.1 ?_⟩) h2
   rw[Array.setIfInBounds_comm _ _ hji]
   exact h3.2.2
def waits (X:TypeId->Bool) (md:Region.Mode) (ops:Array Oper) (listed:Array Bool) (i:Nat):Prop :=
 ∃ B:Nat->Prop,(∀ j,B j->listed.getD j true=false/\∃ oj,ops[j]?=some oj/\∃ e∈oj.after,Region.binds md e=true/\(e.on=i\/B e.on)) /\
  (∀ j oj,ops[j]?=some oj->j≠i->listed.getD j true=false->bK X oj=false->B j)
theorem tW {listed:Array Bool} {j:Nat} (h1:listed.getD j true=false) (h2:listed.getD j false=true):False:=by
 rcases Nat.lt_or_ge j listed.size with h'|h'
 ·simp[h'] at h1 h2;rw[h1] at h2;cases h2
 ·simp[Array.getElem?_eq_none h'] at h2
theorem waits.none {i j:Nat} {listed:Array Bool} {B:Nat->Prop} (h:∀ j,B j->listed.getD j true=false/\∃ oj,ops[j]?=some oj/\∃ e∈oj.after,Region.binds md e=true/\(e.on=i\/B e.on))
  (hr:i∈Region.ready md ops listed) (hj:j∈Region.ready md ops listed):¬B j:=fun hb=>by
 obtain⟨hjun,oj,hoj,hall⟩:=mem_ready.1 hj;obtain⟨_,oj',hoj',e,he,hbd,h1⟩:=h j hb;rw[hoj] at hoj';injection hoj' with hoj';subst hoj';have h2:=hall e he hbd;rcases h1 with h1|h1
 ·rw[h1] at h2;exact tW (mem_ready.1 hr).1 h2
 ·exact tW (h _ h1).1 h2
theorem waits.calm {i j:Nat} {listed:Array Bool} (h:waits X md ops listed i) (hr:i∈Region.ready md ops listed) (hj:j∈Region.ready md ops listed) (hji:j≠i) (hoj:ops[j]?=some oj):bK X oj=true:=by
 obtain⟨B,h1,h2⟩:=h
 cases hc:bK X oj
 ·exact absurd (h2 j oj hoj hji (mem_ready.1 hj).1 hc) (waits.none h1 hr hj)
 ·rfl
theorem waits.set {i j:Nat} {listed:Array Bool} (h:waits X md ops listed i) (hr:i∈Region.ready md ops listed) (hj:j∈Region.ready md ops listed):waits X md ops (listed.setIfInBounds j true) i:=by
 obtain⟨B,h1,h2⟩:=h;have hn:=waits.none h1 hr hj;refine⟨B,fun k hk=>?_,fun k ok hk hki hun hck=>?_⟩
 ·have hjk:j≠k:=fun e=>by subst e;exact hn hk
  rw[getD_set_ne true hjk]
  exact h1 k hk
 ·refine h2 k ok hk hki ?_ hck
  by_cases hjk:j=k
  ·subst hjk;exact(mem_ready.1 hj).1
  ·rw[getD_set_ne true hjk] at hun;exact hun
theorem aX.nU {i:Nat} {K:Act->World->Prop} (hi:ops[i]?=some o) (hc:bK X o=true) (h:lOp X P ops C i K a w):∃ v,aX X P ops C o v a/\K (a.put o.dst v) w:=by
 unfold Proofs.YtjciicheoghcdaaGreatDoor.lOp at h;simp only[hi] at h
 by_cases hw:Region.wanted o (yielded ops a.tmps)=true
 ·simp only[hw,hc,if_true] at h;obtain⟨v,h1,h2⟩:=h
  exact⟨v,.inl ⟨hw,hc,h1⟩,h2⟩
 ·simp only[hw] at h
  exact⟨undef,.inr ⟨by simpa using hw,rfl⟩,h⟩
theorem jE {i L:Nat} (hL:ju md ops L) (hi:ops[i]?=some oi) (hci:bK X oi=false) (hsel:∀ (j:Nat) (o:Oper) cs b,ops[j]?=some o->o.op≠ .select cs b) :
  ∀ (fuel:Nat) (listed:Array Bool) (a:Act),
   (∀ j oj,ops[j]?=some oj->j≠i->listed.getD j true=false->(∀ e∈oj.after,Region.binds md e=true->e.on≠i)->oi.apart ops oj=true) ->
   waits X md ops listed i->i∈Region.ready md ops listed->C w->Region.wanted oi (yielded ops a.tmps)=true ->
   Oper.gives P oi a w (fun v w'=>(i≠L->C w')/\eQ X P md ops C L Q fuel (listed.setIfInBounds i true) (a.put oi.dst v) w')->eQ X P md ops C L Q (fuel+1) listed a w:=by
 intro fuel
 induction fuel with
 | zero =>
  intro listed a _ hwt hr hC hwn H;refine⟨fun h=>(by rw[h] at hr;cases hr),fun j hj=>?_⟩
  by_cases hji:j=i
  ·subst hji;unfold lOp;simp only[hi,hwn,hci,if_true,Bool.false_eq_true,if_false]
   exact H
  ·obtain⟨v,w',_,h1,_⟩:=g_ H;have:=ready_mono hj hji;rw[h1] at this
   cases this
 | succ fuel ih =>
  intro listed a hfree hwt hr hC hwn H;refine⟨fun h=>(by rw[h] at hr;cases hr),fun j hj=>?_⟩
  by_cases hji:j=i
  ·subst hji;unfold lOp;simp only[hi,hwn,hci,if_true,Bool.false_eq_true,if_false]
   exact H
  ·obtain⟨hjun,oj,hoj,hall⟩:=mem_ready.1 hj;have hcj:=hwt.calm hr hj hji hoj;have hap:=hfree j oj hoj hji hjun (fh (j:=j) hr hall);obtain⟨h1,h2,h3⟩:=Oper.apart_spec hap;have hsi:∀ cs b,oi.op≠ .select cs b:=fun cs b=>hsel i oi cs b hi
   have hsj:∀ cs b,oj.op≠ .select cs b:=fun cs b=>hsel j oj cs b hoj
   have back:∀ v u,aX X P ops C oj u (a.put oi.dst v)->aX X P ops C oj u a:=fun v u hy=>hy.of_same (execOp_put oj hsj a oi.dst v h1).symm (wanted_put oj a oi.dst v h1).symm
   obtain⟨v0,w0,hv0⟩:=g_ H;obtain⟨u,hu,_⟩:=aX.nU hoj hcj (hv0.2.2 j (ready_mono hj hji));have hua:=back v0 u hu;refine hua.op hoj ⟨fun _=>hC,?_⟩
   have hfree':∀ k ok,ops[k]?=some ok->k≠i->(listed.setIfInBounds j true).getD k true=false ->
     (∀ e∈ok.after,Region.binds md e=true->e.on≠i)->oi.apart ops ok=true:=fun k ok hk hki hun hno=>by
    refine hfree k ok hk hki ?_ hno
    by_cases hjk:j=k
    ·subst hjk;exact hjun
    ·rw[getD_set_ne true hjk] at hun;exact hun
   refine ih (listed.setIfInBounds j true) (a.put oj.dst u) hfree' (hwt.set hr hj) (ready_mono hr (Ne.symm hji)) hC (by rw[wanted_put oi a oj.dst u h3];exact hwn) ?_
   unfold Oper.gives at H ⊢;rw[execOp_put oi hsi a oj.dst u h3];refine cf (fun v w' hv=>⟨hv.1,?_⟩) H
   obtain⟨u',hu',hk⟩:=aX.nU hoj hcj (hv.2.2 j (ready_mono hj hji));obtain rfl:=aX.one hC (back v u' hu') hua;rw[Array.setIfInBounds_comm _ _ hji,<-Act.put_comm a v u' h2]
   exact hk.2
def behind (md:Region.Mode) (ops:Array Oper) (listed:Array Bool) (i:Nat):Array Bool :=
 (List.range ops.size).foldl (fun B j=>match ops[j]? with
  | some oj=>B.setIfInBounds j (!listed.getD j true && j != i && oj.after.any (fun e=>Region.binds md e && (e.on == i || B.getD e.on false)))
  | none=>B) (Array.replicate ops.size false)
def uD (X:TypeId->Bool) (md:Region.Mode) (ops:Array Oper) (listed:Array Bool) (i:Nat) (B:Array Bool):Bool :=
 ((List.range B.size).all fun j=> !B.getD j false || (!listed.getD j true && match ops[j]? with
  | some oj=>oj.after.any (fun e=>Region.binds md e && (e.on == i || B.getD e.on false))
  | none=>false)) &&
 ((List.range ops.size).all fun j=>j == i || listed.getD j true || B.getD j false || match ops[j]? with
  | some oj=>bK X oj
  | none=>true)
def oD (X:TypeId->Bool) (md:Region.Mode) (ops:Array Oper) (listed:Array Bool) (i:Nat):Bool :=
 match ops[i]? with
 | none=>true
 | some oi=>bK X oi || uD X md ops listed i (behind md ops listed i)
theorem iU {i:Nat} {listed:Array Bool} (hi:ops[i]?=some oi) (hc:bK X oi=false) (h:oD X md ops listed i=true):waits X md ops listed i:=by
 simp only[oD,hi,hc,Bool.false_or] at h
 generalize behind md ops listed i=B at h
 simp only[uD,Bool.and_eq_true,List.all_eq_true,List.mem_range] at h;refine⟨fun j=>B.getD j false=true,fun j hj=>?_,fun j oj hj hne hun hcj=>?_⟩
 ·have hlt:j<B.size:=by
   rcases Nat.lt_or_ge j B.size with h'|h'
   ·exact h'
   ·simp[Array.getElem?_eq_none h'] at hj
  have h1:=h.1 j hlt;simp only[hj,Bool.not_true,Bool.false_or,Bool.and_eq_true,Bool.not_eq_true'] at h1;refine⟨h1.1,?_⟩
  cases ho:ops[j]? with
  | none=>rw[ho] at h1;cases h1.2
  | some oj =>
   rw[ho] at h1;obtain⟨e,he,hb⟩:=Array.any_eq_true'.1 h1.2;simp only[Bool.and_eq_true,Bool.or_eq_true,beq_iff_eq] at hb
   exact⟨oj,rfl,e,he,hb.1,hb.2⟩
 ·have h1:=h.2 j (Array.getElem?_eq_some_iff.1 hj).1;simp only[hj,Bool.or_eq_true,beq_iff_eq,hne,false_or,hun,Bool.false_eq_true,hcj,or_false] at h1
  exact h1
def dW (X:TypeId->Bool) (md:Region.Mode) (ops:Array Oper):Nat->Nat->Array Bool->Bool
 | 0,_,listed=>(Region.ready md ops listed).isEmpty
 | fuel+1,k,listed=>(Region.ready md ops listed).contains k && Region.free md ops listed k && oD X md ops listed k && dW X md ops fuel (k+1) (listed.setIfInBounds k true)
def rT (X:TypeId->Bool) (md:Region.Mode) (ops:Array Oper):Bool:=Region.noSelect ops && dW X md ops ops.size 0 (Array.replicate ops.size false)
def bx (X:TypeId->Bool) (P:Program) (ops:Array Oper) (C:World->Prop) (nl:Bool) (Q:Act->World->Prop):List Oper->Act->World->Prop
 | [],a,w=>Q a w
 | o::rest,a,w=>if Region.wanted o (yielded ops a.tmps) then (if bK X o then o.quiet P a C (fun a'=>bx X P ops C nl Q rest a' w) else Oper.gives P o a w (fun v w'=>((rest=[]/\nl=true)\/C w')/\bx X P ops C nl Q rest (a.put o.dst v) w')) else bx X P ops C nl Q rest (a.put o.dst undef) w
theorem aI {nl:Bool} (h:Q a w):bx X P ops C nl Q [] a w:=h
theorem aG {nl:Bool} {rest:List Oper} (hw:Region.wanted o (yielded ops a.tmps)=false) (h:bx X P ops C nl Q rest (a.put o.dst undef) w):bx X P ops C nl Q (o::rest) a w:=by
 unfold bx;simp only[hw,Bool.false_eq_true,if_false]
 exact h
theorem aF {nl:Bool} {rest:List Oper} (hw:Region.wanted o (yielded ops a.tmps)=true) (hc:bK X o=true) (h:∀ K:Act->Prop,(∀ a',bx X P ops C nl Q rest a' w->K a')->o.quiet P a C K):bx X P ops C nl Q (o::rest) a w:=by
 unfold bx;simp only[hw,hc,if_true]
 exact h _ fun _ h=>h
theorem bj {nl:Bool} {rest:List Oper} (hw:Region.wanted o (yielded ops a.tmps)=true) (hc:bK X o=false) (h:∀ K:Act->World->Prop,(∀ a' w',C w'->bx X P ops C nl Q rest a' w'->K a' w')->Oper.gives P o a w (fun v w'=>K (a.put o.dst v) w')):bx X P ops C nl Q (o::rest) a w:=by
 unfold bx;simp only[hw,hc,if_true,Bool.false_eq_true,if_false]
 exact h (fun a' w'=>((rest=[]/\nl=true)\/C w')/\bx X P ops C nl Q rest a' w') fun _ _ h1 h2=>⟨.inr h1,h2⟩
theorem aV {rest:List Oper} (hn:rest=[]) (hw:Region.wanted o (yielded ops a.tmps)=true) (hc:bK X o=false) (h:∀ K:Act->World->Prop,(∀ a' w',bx X P ops C true Q rest a' w'->K a' w')->Oper.gives P o a w (fun v w'=>K (a.put o.dst v) w')):bx X P ops C true Q (o::rest) a w:=by
 unfold bx;simp only[hw,hc,if_true,Bool.false_eq_true,if_false]
 exact h (fun a' w'=>((rest=[]/\True)\/C w')/\bx X P ops C true Q rest a' w') fun _ _ h2=>⟨.inl ⟨hn,trivial⟩,h2⟩
theorem af {v:Value} {w':World}:gives P w R (.ok (.value v) w')=R v w':=rfl
theorem ah {w':World}:gives P w R (.ok .skip w')=R undef w':=rfl
theorem ae {f:FuncId} {args:Array Value} {w':World}:gives P w R (.ok (.enter f args) w')=Calls P f args w' (fun e w''=>∃ v,e= .returned v/\R v w''):=rfl
def cW (ops:Array Oper) (nl:Bool):Nat:=if nl then ops.size-1 else ops.size
def kF (md:Region.Mode) (ops:Array Oper):Bool:=(List.range (ops.size-1)).all fun i=>(List.range ops.size).any fun j=>decide (i<j) && match ops[j]? with
 | some oj=>oj.after.any fun e=>Region.binds md e && e.on == i
 | none=>false
theorem h_ {nl:Bool} (h:nl=true->kF md ops=true):ju md ops (cW ops nl):=by
 intro listed hcl hr i hi hne;obtain⟨_,oL,hoL,hall⟩:=mem_ready.1 hr;unfold cW at hoL hne hr
 cases nl
 ·simp only[Bool.false_eq_true,if_false] at hoL;rw[Array.getElem?_eq_none Ql] at hoL
  cases hoL
 ·simp only[if_true] at hoL hne;have h:=h rfl;simp only[kF,List.all_eq_true,List.mem_range] at h;have key:∀ n i,ops.size-1-i=n->i<ops.size-1->listed.getD i false=true:=by
   intro n
   induction n using Nat.strongRecOn with
   | ind n ih =>
    intro i hn hi;have h1:=h i hi;simp only[List.any_eq_true,List.mem_range,Bool.and_eq_true,decide_eq_true_eq] at h1;obtain⟨j,hj,hij,hm⟩:=h1
    cases hoj:ops[j]? with
    | none=>rw[hoj] at hm;cases hm
    | some oj =>
     rw[hoj] at hm;obtain⟨e,he,hb⟩:=Array.any_eq_true'.1 hm;simp only[Bool.and_eq_true,beq_iff_eq] at hb
     by_cases hjl:j=ops.size-1
     ·subst hjl;rw[hoL] at hoj;injection hoj with hoj;subst hoj;have:=hall e he hb.1
      rwa [hb.2] at this
     ·have hlj:=ih (ops.size-1-j) (by omega) j rfl (by omega)
      have:=hcl j oj hoj hlj e he hb.1
      rwa [hb.2] at this
  exact key _ i rfl (by omega)
theorem eR {nl:Bool} (hL:ju md ops (cW ops nl)) (hs:Region.noSelect ops=true):∀ (l:List Oper) (k:Nat) (listed:Array Bool) (a:Act) (w:World),(∀ j,l[j]?=ops[k+j]?)->dW X md ops l.length k listed=true->closed md ops listed->C w->bx X P ops C nl Q l a w->eQ X P md ops C (cW ops nl) Q l.length listed a w
 | [],_,_,_,_,_,hB,_,hC,h=>⟨by simpa [dW] using hB,h⟩
 | o::l,k,listed,a,w,hl,hB,hcl,hC,h=>by
  have h0:ops[k]?=some o:=by simpa using (hl 0).symm
  simp only[List.length_cons,dW,Bool.and_eq_true] at hB;obtain⟨⟨⟨hr,hf⟩,hwt⟩,hB'⟩:=hB;have hl':∀ j,l[j]?=ops[k+1+j]?:=fun j=>by have:=hl (j+1);simpa [Nat.add_assoc,Nat.add_comm 1 j] using this
  have hcl':=hcl.set (j:=k) (by simpa using hr)
  have hks:k<ops.size:=(Array.getElem?_eq_some_iff.1 h0).1;have hlen:l=[]->k=ops.size-1:=fun e=>by
   subst e;have h1:=hl' 0;simp only[List.getElem?_nil,Nat.add_zero] at h1;have:=Array.getElem?_eq_none_iff.1 h1.symm
   omega
  unfold bx at h
  by_cases hw:Region.wanted o (yielded ops a.tmps)=true
  ·simp only[hw,if_true] at h
   cases hc:bK X o
   ·simp only[hc,Bool.false_eq_true,if_false] at h;refine jE hL h0 hc (Region.noSelect_spec hs) l.length listed a (Region.free_spec h0 hf) (iU h0 hc hwt) (by simpa using hr) hC hw ?_
    refine cf (fun v w' ⟨h1,h2⟩=>?_) h
    rcases h1 with⟨e,hn⟩|h1
    ·subst e;refine⟨fun hne=>absurd (by rw[hlen rfl];unfold cW;rw[hn];rfl) hne,by simpa [dW] using hB',h2⟩
    ·exact⟨fun _=>h1,eR hL hs l (k+1) _ _ _ hl' hB' hcl' h1 h2⟩
   ·simp only[hc,if_true] at h;obtain⟨v,hv,hk⟩:=h
    by_cases hkL:k=cW ops nl
    ·have hln:l=[]:=by
      unfold cW at hkL
      cases nl
      ·simp at hkL;omega
      ·simp only[if_true] at hkL;have h1:=hl' 0;rw[Array.getElem?_eq_none (by omega)] at h1
       cases l with
       | nil=>rfl
       | cons _ _=>simp at h1
     subst hln;refine⟨fun h=>(by rw[h] at hr;simp at hr),fun j hj=>?_⟩
     have hjk:j=k:=by rw[hkL];exact jM hL hcl (by rw[<-hkL];simpa using hr) hj
     subst hjk
     exact aX.op h0 (.inl ⟨hw,hc,hv⟩) ⟨fun hne=>absurd hkL hne,by simpa [dW] using hB',hk⟩
    ·exact eK hL hkL h0 (Region.noSelect_spec hs) l.length listed a w (Region.free_spec h0 hf) hcl (by simpa using hr) hC (.inl ⟨hw,hc,hv⟩) (eR hL hs l (k+1) _ _ _ hl' hB' hcl' hC hk)
  ·simp only[hw] at h
   by_cases hkL:k=cW ops nl
   ·have hln:l=[]:=by
     unfold cW at hkL
     cases nl
     ·simp at hkL;omega
     ·simp only[if_true] at hkL;have h1:=hl' 0;rw[Array.getElem?_eq_none (by omega)] at h1
      cases l with
      | nil=>rfl
      | cons _ _=>simp at h1
    subst hln;refine⟨fun h=>(by rw[h] at hr;simp at hr),fun j hj=>?_⟩
    have hjk:j=k:=by rw[hkL];exact jM hL hcl (by rw[<-hkL];simpa using hr) hj
    subst hjk
    exact aX.op h0 (.inr ⟨by simpa using hw,rfl⟩) ⟨fun hne=>absurd hkL hne,by simpa [dW] using hB',h⟩
   ·exact eK hL hkL h0 (Region.noSelect_spec hs) l.length listed a w (Region.free_spec h0 hf) hcl (by simpa using hr) hC (.inr ⟨by simpa using hw,rfl⟩) (eR hL hs l (k+1) _ _ _ hl' hB' hcl' hC h)
theorem dZ (X:TypeId->Bool) (nl:Bool) {id:Nat} {Q:Exit->Act->World->Prop} {a:Act} {w:World} {l:List Oper} (S:World->Prop) (hm:P.follows .mixedOrders=true) (hB:rT X .any l.toArray=true) (hN:nl=true->kF .any l.toArray=true) (hC:S w.drew)
  (h:Nonempty (Wd S)->bx X P l.toArray (fun w'=>∃ x:Wd S,w'=x.w) nl (fun a' w'=>Q .normal a' w') l a w.drew):(Code.region id l.toArray true).wp P Q a w:=by
 simp only[rT,Bool.and_eq_true] at hB;refine wp_region_any hm (jU (X:=X) (C:=fun w'=>∃ x:Wd S,w'=x.w) (Q:=fun a' w'=>Q .normal a' w') (h_ hN) (fun _ _ h=>h) _ _ _ _ (by simpa using closed.none l.length) (.inl ⟨⟨w.drew,hC⟩,rfl⟩) ?_)
 have:=eR (X:=X) (P:=P) (C:=fun w'=>∃ x:Wd S,w'=x.w) (Q:=fun a' w'=>Q .normal a' w') (md:= .any) (h_ hN) hB.1 l 0 (Array.replicate l.length false) a w.drew (by simp) (by simpa using hB.2) (closed.none _) ⟨⟨w.drew,hC⟩,rfl⟩ (h ⟨⟨w.drew,hC⟩⟩)
 simpa using this
def noX (_:TypeId):Bool:=false
theorem eH (nl:Bool) {id:Nat} {Q:Exit->Act->World->Prop} {a:Act} {w:World} {l:List Oper} (S:World->Prop) (hm:P.follows .mixedOrders=true) (hB:rT noX .any l.toArray=true) (hN:nl=true->kF .any l.toArray=true) (hC:S w.drew)
  (h:Nonempty (Wd S)->bx noX P l.toArray (fun w'=>∃ x:Wd S,w'=x.w) nl (fun a' w'=>Q .normal a' w') l a w.drew):(Code.region id l.toArray true).wp P Q a w:=dZ noX nl S hm hB hN hC h
theorem Fz {id:Nat} {Q:Exit->Act->World->Prop} {a:Act} {w:World} {l:List Oper} (S:World->Prop) (hm:P.follows .mixedOrders=true) (hB:rT noX .any l.toArray=true) (hC:S w.drew)
  (h:Nonempty (Wd S)->bx noX P l.toArray (fun w'=>∃ x:Wd S,w'=x.w) false (fun a' w'=>Q .normal a' w') l a w.drew):(Code.region id l.toArray true).wp P Q a w:=eH false S hm hB (fun h=>by cases h) hC h
end
end
end Go.Proofs.YtjciicheoghcdaaGreatDoor
