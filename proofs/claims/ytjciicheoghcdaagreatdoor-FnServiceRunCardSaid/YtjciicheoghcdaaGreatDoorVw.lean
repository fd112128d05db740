/- Part of the proof: the law FnServiceRun is true for every input. -/
import Derived.Lib.Split
import Derived.Test.YtjciicheoghcdaaGreatDoorVb
import Derived.Test.YtjciicheoghcdaaGreatDoorVv
namespace Go.Proofs.YtjciicheoghcdaaGreatDoor
open Go.RowKit Go.Proofs.Tryz
set_option linter.all false
set_option maxRecDepth 20000
set_option maxHeartbeats 16000000
theorem Db (l p:List UInt8) (w:World):Calls prog 178 #[.string (bs l),.string (bs p)] w fun e w'=>e= .returned (.tuple #[.string (bs (Lib.trimPrefix l p)),.bool (Lib.hasPrefix l p)])/\w=w':=by
 refine (Tryz.strings_CutPrefix (bs l) (bs p) w).mono ?_;rintro e w' ⟨rfl,rfl⟩
 exact⟨rfl,rfl⟩
theorem yY (l p:List UInt8) (w:World) (hl:l.length<=1048576) (hm:iD w):Calls prog 34 #[.string (bs l),.string (bs p)] w fun e w'=>e= .returned (.tuple #[.string (bs (Lib.cut l p).1),.string (bs (Lib.cut l p).2.1),.bool (Lib.cut l p).2.2])/\Below w.heap.size w w':=by
 obtain⟨m,hm⟩:=hm;refine(Tryz.strings_Cut (bs l) (bs p) m w (by rw[aK];omega) hm).mono ?_
 rintro e w' ⟨rfl,n,rfl⟩
 exact⟨rfl,below_drewN Qb n⟩
theorem jY (l:List UInt8) {s:ByteArray} (hs:s=bs l) (k:Nat) (h:k<s.size):∃ h2:k<l.length,l[k]=s[k]:=by
 subst hs
 exact byte_at (bs l) k h
theorem xJ {l:List UInt8} {k:Nat} (h:k<l.length) (hb:isD l[k]=false):dOf l=(0,false):=by
 unfold dOf;rw[if_neg];intro e;rw[List.all_eq_true] at e;rw[e _ (List.getElem_mem h)] at hb
 cases hb
theorem Ae {l:List UInt8} (h:l.all isD=true):dOf l=(vl l,decide (l≠[])):=if_pos h
theorem uC {l:List UInt8} {k:Nat} (h:k<l.length) (ha:(l.take k).all isD=true) (hb:isD l[k]=true):(l.take (k+1)).all isD=true/\vl (l.take (k+1))=vl (l.take k)*10+((l[k].toNat:Int)-48):=by
 rw[List.take_succ_eq_append_getElem h]
 exact⟨by rw[List.all_append,ha,List.all_cons,hb];rfl,qP _ _⟩
theorem jS {l:List UInt8} {k:Nat} (hk:k<=l.length) (h8:k<=8) (ha:(l.take k).all isD=true):0<=vl (l.take k)/\vl (l.take k)<=99999999:=by
 have h:=Ci (l.take k) ha k (by rw[List.length_take];omega)
 rw[List.take_take,Nat.min_self] at h;refine⟨h.1,Int.le_trans h.2 ?_⟩;have h2:(10:Int) ^ k<=10 ^ 8:=by
  have:=Nat.pow_le_pow_right (show 0<10 by omega) h8
  exact_mod_cast this
 have h3:(10:Int) ^ 8=100000000:=by decide
 omega
theorem rJ {b:UInt8} (h:¬(48<=b.toNat/\b.toNat<=57)):isD b=false:=decide_eq_false h
theorem rK {b:UInt8} (h:48<=b.toNat/\b.toNat<=57):isD b=true:=decide_eq_true h
theorem ti {a b:Int} {c d:Bool} (h:a=b) (h2:c=d):Ending.returned (.tuple #[.int .i64 a,.bool c])= .returned (.tuple #[.int .i64 b,.bool d]):=by rw[h,h2]
theorem DJ (l:List UInt8) (hl:l.length<=8) (w:World):Calls prog 179 #[.string (bs l)] w fun e w'=>e= .returned (.tuple #[.int .i64 (dOf l).1,.bool (dOf l).2])/\w=w':=by
 obtain⟨s,hs⟩:∃ s,s=bs l:=⟨_,rfl⟩;rw[<-hs];have hss:s.size=l.length:=by rw[hs,aK]
 have HS:=Qh hs;have HL:=Qh hl
 by_cases h0:l=[]
 ·have hz:s.toList.isEmpty=true:=by rw[mm];exact(jo _ _).2 (by rw[hs,h0];rfl)
  have hz2:s.size=0:=by rw[hss,h0];rfl
  have e1:dOf l=(0,false):=by rw[h0];rfl
  rw[e1];clear hs hss h0 e1 hl
  go_enter func179,ntmps179
  go_wp2;refine wp_loop_rounds 1 ?_;rw[rounds_succ];go_wp2
  go_ret2
  exact⟨rfl,rfl⟩
 have hz:s.toList.isEmpty=false:=by rw[mm];exact iE (fun e=>h0 (gU (by rw[<-hs];exact e)))
 have HSS:=Qh hss;have H0:=Qh h0;clear hs hss hl h0
 go_enter func179,ntmps179
 go_wp2
 go_loop [4,8] (fun q i=>∃ (k:Nat) (n:Int),k<=s.size/\i= .int .i64 k/\q= .int .i64 n/\0<=n/\n<=99999999/\Hid ((l.take k).all isD=true/\n=vl (l.take k))) (fun _ i=>s.size-(intOf i).toNat)
 case atStart=>exact⟨0,0,Nat.zero_le _,rfl,rfl,by omega,by omega,rfl,rfl⟩
 case round =>
  obtain⟨k,n,hk,rfl,rfl,n0,n1,hn⟩:=hrel
  by_cases hlt:k<s.size
  ·obtain⟨hkl,hbk⟩:=jY l HS.out k hlt;have hk64:(s.size:Int)<=9223372036854775807:=by have:=HSS.out;have:=HL.out;omega
   have hk0:(0:Int)<=(k:Int):=by omega
   obtain⟨y,hy⟩:∃ y:Int,(s[k].toNat:Int)=y:=⟨_,rfl⟩;have hyl:(l[k].toNat:Int)=y:=by rw[hbk];exact hy
   have HY:=Qh hyl;clear hyl hbk
   by_cases hd:48<=y/\y<=57
   ·obtain⟨d0,d1⟩:=hd;have hst:=uC hkl hn.out.1 (rK (by have:=HY.out;omega))
    rw[HY.out,<-hn.out.2] at hst;have hbd:=jS (l:=l) (k:=k+1) (by omega) (by have:=HL.out;omega) hst.1
    rw[hst.2] at hbd;obtain⟨b0,b1⟩:=hbd;have HST:=Qh hst;have p1:=IntWalk.i64_in (n*10) (by omega)
    have p2:=IntWalk.i64_in (n*10+(y-48)) (by omega)
    clear hst hn;go_wp2
    go_round
    case rel=>exact⟨k+1,n*10+(y-48),by omega,by go_num,by go_num,by omega,by omega,HST.out.1,HST.out.2.symm⟩
    case measure=>simp[intOf];omega
   ·have HF:Hid (dOf l=(0,false)):=xJ hkl (rJ (by have:=HY.out;omega))
    clear hn
    by_cases hd1:y<48
    ·clear hd;go_wp2
     go_ret2
     exact⟨ti (by rw[HF.out]) (by rw[HF.out]),rfl⟩
    ·have hd2:57<y:=by omega
     clear hd;go_wp2
     go_ret2
     exact⟨ti (by rw[HF.out]) (by rw[HF.out]),rfl⟩
  ·obtain rfl:k=s.size:=by omega
   have HF:Hid (dOf l=(n,true)):=by
    obtain⟨h1,h2⟩:=hn.out;rw[HSS.out,List.take_length] at h1 h2
    show _=_
    rw[Ae h1,h2]
    simp[H0.out]
   clear hn;go_wp2
   go_ret2
   exact⟨ti (by rw[HF.out]) (by rw[HF.out]),rfl⟩
theorem ie {l sep:List UInt8} (h:Lib.index l sep= -1):Lib.split l sep=[l]:=by
 unfold Lib.split;rw[Lib.count_miss h]
 rfl
theorem lQ {l sep:List UInt8} {i:Nat} (hs:sep≠[]) (h:Lib.index l sep=i):Lib.split l sep=l.take i::Lib.split (l.drop (i+sep.length)) sep:=by
 unfold Lib.split;rw[Lib.count_hit hs h,Nat.add_comm,Lib.splitK,if_neg (by rw[h];simp),h]
 simp
theorem lR (sep:List UInt8) (hs:sep≠[]):∀ (n:Nat) (l:List UInt8),l.length<n->(Lib.split l sep).length=Lib.count l sep+1:=by
 intro n
 induction n with
 | zero=>intro l h;omega
 | succ n ih =>
  intro l h;rcases Lib.index_spec l sep with⟨h1,_⟩|⟨i,h1,h2,h3,_⟩
  ·rw[ie h1,Lib.count_miss h1];rfl
  ·have hd:=Lib.drop_shorter hs (s:=l) (by rw[h1];simp)
   rw[h1] at hd;simp only[Int.toNat_natCast] at hd;rw[lQ hs h1,Lib.count_hit hs h1,List.length_cons,ih _ (by omega)]
   omega
theorem xi (l sep:List UInt8):Lib.split l sep≠[]:=by
 unfold Lib.split
 cases Lib.count l sep with
 | zero=>simp[Lib.splitK]
 | succ k=>unfold Lib.splitK;split <;> simp
theorem hU (x:List UInt8) {r:List (List UInt8)} (hr:r≠[]) (sep:List UInt8):Lib.join (x::r) sep=x++sep++Lib.join r sep:=by
 cases r with
 | nil=>exact absurd rfl hr
 | cons y r=>simp[Lib.join_cons,Lib.joinTail,List.append_assoc]
theorem qp {l sep:List UInt8} {i:Nat} (h:Lib.occAt l sep i=true):l=l.take i++sep++l.drop (i+sep.length):=by
 have h1:sep <+: l.drop i:=List.isPrefixOf_iff_prefix.1 h;obtain⟨r,hr⟩:=h1;have h2:l.drop (i+sep.length)=r:=by
  rw[<-List.drop_drop,<-hr,List.drop_left]
 rw[h2,List.append_assoc,hr,List.take_append_drop]
theorem uc (sep:List UInt8) (hs:sep≠[]):∀ (n:Nat) (l:List UInt8),l.length<n->Lib.join (Lib.split l sep) sep=l:=by
 intro n
 induction n with
 | zero=>intro l h;omega
 | succ n ih =>
  intro l h;rcases Lib.index_spec l sep with⟨h1,_⟩|⟨i,h1,h2,h3,_⟩
  ·rw[ie h1,Lib.join_one]
  ·have hd:=Lib.drop_shorter hs (s:=l) (by rw[h1];simp)
   rw[h1] at hd;simp only[Int.toNat_natCast] at hd;rw[lQ hs h1,hU _ (xi _ _),ih _ (by omega)]
   exact(qp h3).symm
theorem DM {a sr:List UInt8} {c:UInt8} (h:c∉a):Lib.index a (c::sr)= -1:=by
 induction a with
 | nil=>rfl
 | cons b a ih =>
  have hb:b≠c:=fun e=>h (by rw[e];exact List.mem_cons_self ..)
  have hp:List.isPrefixOf (c::sr) (b::a)=false:=by simp[List.isPrefixOf,Ne.symm hb]
  unfold Lib.index;rw[hp,ih (fun e=>h (List.mem_cons_of_mem _ e))]
  rfl
theorem po {a b sr:List UInt8} {c:UInt8} (h:c∉a):Lib.index (a++((c::sr)++b)) (c::sr)=(a.length:Int):=by
 induction a with
 | nil =>
  have hp:List.isPrefixOf (c::sr) (c::(sr++b))=true:=List.isPrefixOf_iff_prefix.2 ⟨b,rfl⟩;simp only[List.nil_append,List.cons_append];unfold Lib.index;rw[hp]
  rfl
 | cons d a ih =>
  have hb:d≠c:=fun e=>h (by rw[e];exact List.mem_cons_self ..)
  have hp:List.isPrefixOf (c::sr) (d::(a++((c::sr)++b)))=false:=by simp[List.isPrefixOf,Ne.symm hb]
  rw[List.cons_append];unfold Lib.index;rw[hp,ih (fun e=>h (List.mem_cons_of_mem _ e))]
  have:(((a.length:Int)) == -1)=false:=by rw[beq_eq_false_iff_ne];omega
  simp[this]
theorem kV {c:UInt8} {sr:List UInt8}:∀ {ls:List (List UInt8)},ls≠[]->(∀ x∈ls,c∉x)->Lib.split (Lib.join ls (c::sr)) (c::sr)=ls:=by
 intro ls
 induction ls with
 | nil=>intro h;exact absurd rfl h
 | cons x ls ih =>
  intro _ hm;have hx:=hm x (List.mem_cons_self ..)
  by_cases hl:ls=[]
  ·subst hl;rw[Lib.join_one,ie (DM hx)]
  ·rw[hU x hl,List.append_assoc,lQ (by simp) (po hx)]
   have e1:(x++(c::sr++Lib.join ls (c::sr))).take x.length=x:=List.take_left;have e2:(x++(c::sr++Lib.join ls (c::sr))).drop (x.length+(c::sr).length)=Lib.join ls (c::sr):=by
    rw[<-List.drop_drop,List.drop_left,List.drop_left]
   rw[e1,e2,ih hl (fun y hy=>hm y (List.mem_cons_of_mem _ hy))]
theorem bX {l sep x:List UInt8} (hs:sep≠[]) (h:x∈Lib.split l sep):x.length<=l.length:=by
 have key:∀ (n:Nat) (l:List UInt8),l.length<n->∀ x∈Lib.split l sep,x.length<=l.length:=by
  intro n
  induction n with
  | zero=>intro l h;omega
  | succ n ih =>
   intro l h x hx;rcases Lib.index_spec l sep with⟨h1,_⟩|⟨i,h1,h2,h3,_⟩
   ·rw[ie h1] at hx;have:x=l:=by simpa using hx
    rw[this]
    exact Nat.le_refl _
   ·have hd:=Lib.drop_shorter hs (s:=l) (by rw[h1];simp)
    rw[h1] at hd;simp only[Int.toNat_natCast] at hd;rw[lQ hs h1] at hx;rcases List.mem_cons.1 hx with rfl|hx
    ·rw[List.length_take];omega
    ·have:=ih _ (by omega) x hx
     omega
 exact key _ l (Nat.lt_succ_self _) x h
def Spl (l sep:List UInt8) (w:World) (e:Ending) (w':World):Prop:=e= .returned (.slice (some ⟨w.heap.size,0,none⟩) (Lib.split l sep).length (Lib.split l sep).length)/\VO w' w.heap.size 9 1 (some ⟨w.heap.size,0,none⟩) (Lib.split l sep).length (Lib.split l sep).length (strs (Lib.split l sep))/\Below w.heap.size w w'
theorem pU (l sep:List UInt8) (hs:sep≠[]) (hl:l.length<=1048577) (w:World) (hm:iD w):Calls prog 83 #[.string (bs l),.string (bs sep)] w (Spl l sep w):=by
 obtain⟨m,hm⟩:=hm;refine (Tryz.strings_Split (bs l) (bs sep) m w (by rw[aK];omega) hm (by rw[aK];cases sep;exact absurd rfl hs;simp)).mono ?_;rintro e w' ⟨rfl,rfl⟩;have hc:Lib.countB (bs l) (bs sep)+1=(Lib.split l sep).length:=(lR sep hs _ l (Nat.lt_succ_self _)).symm;have hv:(Lib.splitB (bs sep) 0 (Lib.countB (bs l) (bs sep)) (bs l)).map Value.string=strs (Lib.split l sep):=by
  have h:=Lib.splitB_data (bs sep) 0 (Lib.countB (bs l) (bs sep)) (bs l);have h2:Lib.split l sep=(Lib.splitB (bs sep) 0 (Lib.countB (bs l) (bs sep)) (bs l)).map (fun x=>x.data.toList):=h.symm
  rw[strs,h2,List.map_map];apply List.map_congr_left
  intro x _
  show Value.string x=Value.string (bs x.data.toList)
  rw[fe]
 refine⟨by rw[hc],?_,Qb.alloc Ql _⟩
 rw[hv];have hle:=Lib.count_le l sep;have h3:=lR sep hs _ l (Nat.lt_succ_self _);refine⟨by simp[strs],.inr ⟨w.heap.size,_,_,rfl,Nat.le_refl _,Blk.new w 9 _,Nat.le_refl _,by unfold maxLen;omega,by simp[strs],?_⟩⟩
 rw[List.take_of_length_le (by simp[strs])]
def ZS (n:Nat):Obj:= .cells (madeCells #[.string ByteArray.empty] n) 9
theorem ui (n:Nat) (hn:n<=1048576) (w:World):(Instr.makeSlice 48 (.int .i64 (n:Int)) (.int .i64 (n:Int))).run prog w= .ok (.slice (some ⟨w.heap.size,0,none⟩) n n) (w.alloc (ZS n)):=by
 obtain⟨i,hi,hz,h1,h8⟩:=info_parts mQ;have h:=run_make (P:=prog) w 48 9 i _ underlying48 hi hz .i64 .i64 (n:Int) (n:Int) (by omega) (Int.le_refl _) (by rw[h8];omega) (by omega)
 rw[h,h1];simp only[Int.toNat_natCast,Nat.mul_one]
 rfl
theorem VO.Cl (w:World) (n:Nat) (hn:n<=1048576):VO (w.alloc (ZS n)) w.heap.size 9 1 (some ⟨w.heap.size,0,none⟩) n n (List.replicate n (.string ByteArray.empty)):=by
 have h:=World.ownsRow_lit (base:=w.heap.size) (e:=9) (size:=1) w (madeCells #[.string ByteArray.empty] n) n Ql (by unfold maxLen;omega) (by simp[size_madeCells])
 have e:(madeCells #[.string ByteArray.empty] n).toList=List.replicate n (Value.string ByteArray.empty):=by rw[toList_madeCells_one]
 rw[e] at h
 exact h
def sf (f:Nat->List UInt8) (n k:Nat):List Value:=(List.range k).map (fun i=>Value.string (bs (f i)))++List.replicate (n-k) (.string ByteArray.empty)
theorem ur (f:Nat->List UInt8) (n:Nat):sf f n 0=List.replicate n (.string ByteArray.empty):=by simp[sf]
theorem xd (f:Nat->List UInt8) (n k:Nat) (h:k<n):(sf f n k).set k (.string (bs (f k)))=sf f n (k+1):=by
 unfold sf;have e:n-k=(n-(k+1))+1:=by omega
 rw[List.set_append_right _ _ (by simp),List.range_succ,List.map_append,List.append_assoc]
 simp only[List.length_map,List.length_range,Nat.sub_self];rw[e,List.replicate_succ]
 rfl
theorem zu (f:Nat->List UInt8) (n k:Nat) (h:k<n):(sf f n k)[k]?=some (.string ByteArray.empty):=by
 unfold sf;rw[List.getElem?_append_right (by simp),List.getElem?_replicate]
 simp
 omega
theorem uq (f:Nat->List UInt8) (n:Nat):sf f n n=strs ((List.range n).map f):=by
 unfold sf strs;rw[Nat.sub_self,List.replicate_zero,List.append_nil,List.map_map]
 rfl
theorem rM (l:List (List UInt8)) (sep:List UInt8) (m:Nat) (h:∀ x∈l,x.length<=m):(Lib.join l sep).length<=l.length*(m+sep.length):=by
 have key:∀ l:List (List UInt8),(∀ x∈l,x.length<=m)->(Lib.joinTail sep l).length<=l.length*(m+sep.length):=by
  intro l
  induction l with
  | nil=>intro _;simp[Lib.joinTail]
  | cons a l ih =>
   intro h;have h1:=ih (fun x hx=>h x (List.mem_cons_of_mem _ hx))
   have h2:=h a (List.mem_cons_self ..);simp only[Lib.joinTail,List.map_cons,List.flatten_cons,List.length_append,List.length_cons] at h1 ⊢;rw[Nat.succ_mul]
   omega
 cases l with
 | nil=>simp[Lib.join,List.intercalate]
 | cons a l =>
  have h1:=key l (fun x hx=>h x (List.mem_cons_of_mem _ hx))
  have h2:=h a (List.mem_cons_self ..);rw[Lib.join_cons,List.length_append,List.length_cons,Nat.succ_mul]
  omega
theorem rt_eq (v:List Int) (C k:Nat) (h:k*C+C<=v.length):rt v C k=Lib.join ((List.range C).map fun i=>fx (v.getD (k*C+i) 0)) [32]:=by
 unfold rt
 congr 1
 apply List.ext_getElem
 ·simp;omega
 ·intro i h1 h2;have hi:i<C:=by simpa using h2
  have e1:(v.getD (k*C+i) 0)=v[k*C+i]'(by omega):=by rw[List.getD_eq_getElem?_getD,List.getElem?_eq_getElem (by omega)];rfl
  simp only[List.getElem_map,List.getElem_take,List.getElem_drop,List.getElem_range,e1]
theorem wT (v:List Int) (C k:Nat) (hC:C<=5):(rt v C k).length<=5*302:=by
 unfold rt;refine Nat.le_trans (rM _ [32] 301 (fun x hx=>?_)) ?_
 ·obtain⟨y,_,rfl⟩:=List.mem_map.1 hx
  exact sU y
 ·simp only[List.length_map,List.length_cons,List.length_nil]
  exact Nat.mul_le_mul_right _ (by rw[List.length_take];omega)
theorem vX (r c k a:Nat) (b off n cap:Nat) (ha:a=k*c) (hc:1<=c) (hk:a+c<=n) (hcap:n<=cap) (bc:cap<=maxLen) (bn:n<=1048576) (w:World) :
  Calls prog 58 #[MV (r:Int) (c:Int) (some ⟨b,off,none⟩) n cap,.int .i64 (k:Int)] w fun e w'=>(∃ d,e= .returned (.slice (some ⟨b,off+a,none⟩) c d))/\Below w.heap.size w w':=by
 have e1:(k:Int)*(c:Int)=(a:Int):=by rw[ha];push_cast;rfl
 have e2:((k:Int)+1)*(c:Int)=(a:Int)+(c:Int):=by rw[Int.add_mul,e1,Int.one_mul]
 have q1:=IntWalk.i64_in (a:Int) (by omega)
 have q2:=IntWalk.i64_in ((a:Int)+(c:Int)) (by omega)
 have q3:=IntWalk.i64_in ((k:Int)+1) (by
  have:k<=k*c:=Nat.le_mul_of_pos_right k hc
  omega)
 have l1:(a:Int)<=(a:Int)+(c:Int):=by omega
 have l2:(a:Int)+(c:Int)<=(cap:Int):=by omega
 have l3:(0:Int)<=(a:Int)+(c:Int):=by omega
 clear ha
 go_enter func58,ntmps58
 go_wp2
 go_ret
 exact⟨⟨_,lI (by omega)⟩,Qb.alloc Ql _⟩
def Mo (v:List Int) (R C:Nat) (cs:Array Value) (w wr:World) (gR k:Nat):Prop :=
 VO wr w.heap.size 9 1 (some ⟨gR,0,none⟩) R R (sf (rt v C) R k)/\Blk wr w.heap.size 37 cs/\Below w.heap.size w wr
def Mj (v:List Int) (R C:Nat) (cs:Array Value) (w wr:World) (gR k gW j:Nat):Prop :=
 Mo v R C cs w wr gR k/\VO wr w.heap.size 9 1 (some ⟨gW,0,none⟩) C C (sf (fun i=>fx (v.getD (k*C+i) 0)) C j)/\gR<gW/\w.heap.size<gR
theorem Mo.below {v:List Int} {R C:Nat} {cs:Array Value} {w wr w1:World} {gR k:Nat} (h:Mo v R C cs w wr gR k) (hb:Below wr.heap.size wr w1):Mo v R C cs w w1 gR k :=
 ⟨h.1.below hb,h.2.1.aa hb,bp hb h.2.2.size h.2.2⟩
theorem Mj.start {v:List Int} {R C:Nat} {cs:Array Value} {w wr:World} {gR k:Nat} (h:Mo v R C cs w wr gR k) (hC:C<=5) (h0:w.heap.size<gR):Mj v R C cs w (wr.alloc (ZS C)) gR k wr.heap.size 0 :=
 ⟨h.below (Qb.alloc Ql _),by rw[ur];exact(VO.Cl wr C (by omega)).mono h.2.2.size,(h.1.aj gR rfl).2,h0⟩
theorem Mj.step {v:List Int} {R C:Nat} {cs:Array Value} {w wr w1:World} {gR k gW j:Nat} (h:Mj v R C cs w wr gR k gW j) (hb:Below wr.heap.size wr w1) (hj:j<C) {s:ByteArray} (hs:s=bs (fx (v.getD (k*C+j) 0))) :
  Mj v R C cs w (w1.setCell ⟨gW,j,none⟩ (.string s)) gR k gW (j+1):=by
 obtain⟨⟨h1,h2,h3⟩,h4,h5,h6⟩:=h;subst hs;refine⟨⟨(h1.below hb).far (p:=⟨gW,j,none⟩) (fun e=>by injection e with e;dsimp only at e;omega) _,(h2.aa hb).far (p:=⟨gW,j,none⟩) (by dsimp only;omega) _,(bp hb h3.size h3).setCell (by dsimp only;omega) _⟩,?_,h5,h6⟩
 have h7:=(h4.below hb).store j (.string (bs (fx (v.getD (k*C+j) 0))));rw[xd (fun i=>fx (v.getD (k*C+i) 0)) C j hj] at h7
 exact h7
theorem Mo.step {v:List Int} {R C:Nat} {cs:Array Value} {w wr w1:World} {gR k gW:Nat} (h:Mj v R C cs w wr gR k gW C) (hb:Below wr.heap.size wr w1) (hk:k<R) {s:ByteArray} (hs:s=bs (rt v C k)) :
  Mo v R C cs w (w1.setCell ⟨gR,k,none⟩ (.string s)) gR (k+1):=by
 obtain⟨⟨h1,h2,h3⟩,h4,h5,h6⟩:=h;subst hs;refine⟨?_,(h2.aa hb).far (p:=⟨gR,k,none⟩) (by dsimp only;omega) _,(bp hb h3.size h3).setCell (by dsimp only;omega) _⟩
 have h7:=(h1.below hb).store k (.string (bs (rt v C k)));rw[xd (rt v C) R k hk] at h7
 exact h7
theorem qe (r c:Int) (v:List Int) (A:Option Addr) (n cap:Nat) (w:World) (ht:Tab w) (hx0:SI w A n v) (bn:n<=1048576) (hcap:n<=cap) (bc:cap<=maxLen) :
  Calls prog 15 #[MV r c A n cap] w fun e w'=>e= .returned (.string (bs (mt ⟨r,c,v⟩)))/\Below w.heap.size w w':=by
 obtain⟨u1,hu1⟩:∃ u,u=w.alloc (.cells #[.int .i64 r,.int .i64 c,.slice A n cap] 37):=⟨_,rfl⟩;have B1:Blk u1 w.heap.size 37 #[.int .i64 r,.int .i64 c,.slice A n cap]:=by rw[hu1];exact Blk.new w _ _
 have HO1:Hid (Below w.heap.size w u1):=by rw[hu1];exact Qb.alloc Ql _
 have HX0:=Qh hx0;have HX:Hid (SI u1 A n v):=SI.below hx0 HO1.out;have HB:=Qh B1;have HTB:=Qh ht;have hlen:=hx0.1;have c0:u1.cell? ⟨w.heap.size,0,none⟩=some (.int .i64 r):=B1.cell 0;have c1:u1.cell? ⟨w.heap.size,1,none⟩=some (.int .i64 c):=B1.cell 1;have c2:u1.cell? ⟨w.heap.size,2,none⟩=some (.slice A n cap):=B1.cell 2;have hsz:u1.heap.size=w.heap.size+1:=by rw[hu1];simp
 have HSZ:=Qh hsz;clear B1 ht hsz
 cases hv:mvB ⟨r,c,v⟩
 ·have hbad:Hid (mt ⟨r,c,v⟩=[]):=s_ hv;have HV:=Qh hv;clear hx0 hlen hv
  go_enter func15,ntmps15
  go_wp2_with fail
  rw[<-hu1];clear hu1;refine(aw r c v A n cap u1 HX.out (by omega)).mono ?_
  rintro e w1 ⟨rfl,hb1⟩;rw[HV.out];have HB1:=Qh hb1;clear hb1;go_wp2
  go_ret
  exact⟨bT (by rw[hbad.out];rfl),bp HB1.out HO1.out.size HO1.out⟩
 obtain⟨R,C,hr,hc,R1,R5,C1,C5,hl,h25,hall⟩:=er hv
 dsimp only at hr hc hl hall
 subst hr hc;have hmt:Hid (mt ⟨(R:Int),(C:Int),v⟩=mtx v R C):=l_ hv rfl rfl;have HV:=Qh hv;have HALL:=Qh hall;have HL:=Qh hlen;have HL2:=Qh hl;have h0:0<n:=by have:=Nat.mul_pos (show 0<R by omega) (show 0<C by omega);omega
 obtain⟨b,off,rfl,hb,hcl⟩:=hx0.2 h0;have HCL:=Qh hcl;have hmR:=ui R (by omega)
 have hmC:=ui C (by omega)
 clear hx0 hlen hv hl hall hcl
 go_enter func15,ntmps15
 go_wp2_with fail
 rw[<-hu1];clear hu1;refine(aw (R:Int) (C:Int) v (some ⟨b,off,none⟩) n cap u1 HX.out (by omega)).mono ?_
 rintro e w1 ⟨rfl,hb1⟩;rw[HV.out];have d0:w1.cell? ⟨w.heap.size,0,none⟩=some (.int .i64 (R:Int)):=(HB.out.aa hb1).cell 0;obtain⟨gR,hgR⟩:∃ g,g=w1.heap.size:=⟨_,rfl⟩;have hgR2:w.heap.size<gR:=by rw[hgR];have:=hb1.size;have:=HSZ.out;omega
 obtain⟨u2,hu2⟩:∃ u,u=w1.alloc (ZS R):=⟨_,rfl⟩;have HMO:Hid (Mo v R C #[.int .i64 (R:Int),.int .i64 (C:Int),.slice (some ⟨b,off,none⟩) n cap] w u2 gR 0):=by
  have hO:=bp hb1 HO1.out.size HO1.out;refine⟨?_,?_,?_⟩
  ·rw[hu2,ur,hgR];exact(VO.Cl w1 R (by omega)).mono hO.size
  ·rw[hu2];exact(HB.out.aa hb1).alloc _
  ·rw[hu2];exact hO.alloc hO.size _
 clear hb1 c0 c1 c2
 go_wp2_with fail
 rw[<-hu2,<-hgR];clear hu2 hgR d0
 go_loopw [16] (fun q wr=>∃ k:Nat,k<=R/\q= .int .i64 k/\Hid (Mo v R C #[.int .i64 (R:Int),.int .i64 (C:Int),.slice (some ⟨b,off,none⟩) n cap] w wr gR k)) (fun q _=>R-(intOf q).toNat)
 case atStart=>exact⟨0,Nat.zero_le _,rfl,HMO⟩
 case round =>
  obtain⟨k,hk,rfl,hmo⟩:=hrel
  by_cases hlt:k<R
  ·have i0:(0:Int)<=(k:Int):=by omega
   have i1:(k:Int)<(R:Int):=by omega
   have d1:wr.cell? ⟨w.heap.size,1,none⟩=some (.int .i64 (C:Int)):=hmo.out.2.1.cell 1;obtain⟨wo,rfl⟩:∃ u:World,u=wr:=⟨_,rfl⟩;obtain⟨gW,hgW⟩:∃ g,g=wo.heap.size:=⟨_,rfl⟩;obtain⟨u3,hu3⟩:∃ u,u=wo.alloc (ZS C):=⟨_,rfl⟩;have HMJ:Hid (Mj v R C #[.int .i64 (R:Int),.int .i64 (C:Int),.slice (some ⟨b,off,none⟩) n cap] w u3 gR k gW 0):=by rw[hu3,hgW];exact Mj.start hmo.out C5 hgR2
   have e0:u3.cell? ⟨w.heap.size,0,none⟩=some (.int .i64 (R:Int)):=HMJ.out.1.2.1.cell 0;have e1:u3.cell? ⟨w.heap.size,1,none⟩=some (.int .i64 (C:Int)):=HMJ.out.1.2.1.cell 1;have e2:u3.cell? ⟨w.heap.size,2,none⟩=some (.slice (some ⟨b,off,none⟩) n cap):=HMJ.out.1.2.1.cell 2;have hkc:k*C+C<=R*C:=by have:=Nat.mul_le_mul_right C (show k+1<=R by omega);rw[Nat.succ_mul] at this;exact this
   have HKC:Hid (k*C+C<=v.length):=by show _<=_;rw[HL2.out];exact hkc
   obtain⟨a,ha⟩:∃ a,a=k*C:=⟨_,rfl⟩;have hac:a+C<=n:=by rw[ha];have:=HKC.out;rw[HL.out] at this;exact this
   have HA:=Qh ha;have hu3r:wo.alloc (ZS C)=u3:=hu3.symm;have HGW:=Qh hgW;clear hmo hkc ha hu3 hgW
   go_wp2_with fail
   rw[<-HGW.out];clear hu3r d1;refine(vX R C k a b off n cap HA.out C1 hac hcap bc bn u3).mono ?_;rintro e w4 ⟨⟨d,rfl⟩,hb4⟩;have HMJ4:Hid (Mj v R C #[.int .i64 (R:Int),.int .i64 (C:Int),.slice (some ⟨b,off,none⟩) n cap] w w4 gR k gW 0):=⟨HMJ.out.1.below hb4,HMJ.out.2.1.below hb4,HMJ.out.2.2⟩;clear hb4 HMJ e0 e1 e2
   go_wp2_with fail
   go_loopw [26] (fun q wr=>∃ j:Nat,j<=C/\q= .int .i64 j/\Hid (Mj v R C #[.int .i64 (R:Int),.int .i64 (C:Int),.slice (some ⟨b,off,none⟩) n cap] w wr gR k gW j)) (fun q _=>C-(intOf q).toNat)
   case atStart=>exact⟨0,Nat.zero_le _,rfl,HMJ4⟩
   case round =>
    obtain⟨j,hj,rfl,hmj⟩:=hrel
    by_cases hjl:j<C
    ·obtain⟨x,ex⟩:∃ x,x=v.getD (k*C+j) 0:=⟨_,rfl⟩;have j0:(0:Int)<=(j:Int):=by omega
     have j1:(j:Int)<(C:Int):=by omega
     have cx:wr.cell? ⟨b,off+a+j,none⟩=some (.int .i64 x):=by
      rw[ex,hmj.out.1.2.2.cell (p:=⟨b,off+a+j,none⟩) hb,Nat.add_assoc,<-HA.out]
      exact HCL.out (a+j) (by omega)
     have hx:=sQ HALL.out (k:=k*C+j) (by have:=HKC.out;omega)
     rw[<-ex] at hx;have EX:=Qh ex;clear ex
     go_wp2_with fail
     refine(iI x hx wr (HTB.out.below hmj.out.1.2.2 Ql)).mono ?_;rintro e w5 ⟨rfl,hb5⟩;obtain⟨s,hs⟩:∃ s,s=bs (fx x):=⟨_,rfl⟩;rw[<-hs];have HST:Hid (Mj v R C #[.int .i64 (R:Int),.int .i64 (C:Int),.slice (some ⟨b,off,none⟩) n cap] w (w5.setCell ⟨gW,j,none⟩ (.string s)) gR k gW (j+1)):=hmj.out.step hb5 hjl (by rw[hs,EX.out])
     have hv5:=hmj.out.2.1.below hb5;have fw:w5.frozen? ⟨gW,j,none⟩=false:=hv5.frozen j;obtain⟨y,cw⟩:∃ y,w5.cell? ⟨gW,j,none⟩=some (.string y):=by
      rw[hv5.cell j (by omega)]
      exact⟨_,zu _ _ _ (by omega)⟩
     clear hs hb5 hv5 hmj hx;go_wp2
     go_roundw
     case rel=>exact⟨j+1,by omega,by go_num,HST⟩
     case measure=>simp[intOf];omega
    ·obtain rfl:j=C:=by omega
     have HVW:Hid (VO wr w.heap.size 9 1 (some ⟨gW,0,none⟩) j j (strs ((List.range j).map fun i=>fx (v.getD (k*j+i) 0)))):=by
      have h:=hmj.out.2.1;rw[uq] at h
      exact h
     have hre:Hid (Lib.join ((List.range j).map fun i=>fx (v.getD (k*j+i) 0)) [32]=rt v j k):=(rt_eq v j k HKC.out).symm
     go_wp2_with fail
     refine(sS w.heap.size (some ⟨gW,0,none⟩) j j _ [32] wr HVW.out (by omega) (by rw[hre.out];exact Nat.le_trans (wT v j k C5) (by omega))).mono ?_
     rintro e w5 ⟨rfl,hb5⟩;rw[hre.out];obtain⟨s,hs⟩:∃ s,s=bs (rt v j k):=⟨_,rfl⟩;rw[<-hs];have HST:Hid (Mo v R j #[.int .i64 (R:Int),.int .i64 (j:Int),.slice (some ⟨b,off,none⟩) n cap] w (w5.setCell ⟨gR,k,none⟩ (.string s)) gR (k+1)):=Mo.step hmj.out hb5 hlt hs;have hv5:=hmj.out.1.1.below hb5;have fw:w5.frozen? ⟨gR,k,none⟩=false:=hv5.frozen k;obtain⟨y,cw⟩:∃ y,w5.cell? ⟨gR,k,none⟩=some (.string y):=by
      rw[hv5.cell k (by omega)]
      exact⟨_,zu _ _ _ (by omega)⟩
     clear hs hb5 hv5 hmj HVW hre;go_wp2
     go_roundw
     case rel=>exact⟨k+1,by omega,by go_num,HST⟩
     case measure=>simp[intOf];omega
  ·obtain rfl:k=R:=by omega
   have HVR:Hid (VO wr w.heap.size 9 1 (some ⟨gR,0,none⟩) k k (strs ((List.range k).map (rt v C)))):=by
    have h:=hmo.out.1;rw[uq] at h
    exact h
   have HBE:=Qh hmo.out.2.2;clear hmo
   go_wp2_with fail
   refine(sS w.heap.size (some ⟨gR,0,none⟩) k k _ [59,32] wr HVR.out (by omega) (Nat.le_trans (rM _ [59,32] (5*302) (fun x hx=>by
    obtain⟨y,_,rfl⟩:=List.mem_map.1 hx
    exact wT v C y C5)) (by simp only[List.length_map,List.length_range,List.length_cons,List.length_nil];exact Nat.le_trans (Nat.mul_le_mul_right _ R5) (by omega)))).mono ?_
   rintro e w5 ⟨rfl,hb5⟩;have HB5:=Qh hb5;clear hb5;go_wp2
   go_ret
   exact⟨bT (by rw[hmt.out];rfl),bp HB5.out HBE.out.size HBE.out⟩
theorem jh {P:List (List UInt8)} {k:Nat} (h:k<P.length):(strs P)[k]?=some (.string (bs (P.getD k []))):=by
 rw[strs,List.getElem?_map,List.getElem?_eq_getElem h,List.getD_eq_getElem?_getD,List.getElem?_eq_getElem h]
 rfl
theorem eS {P:List (List UInt8)} {k:Nat} (h:k<P.length):P.getD k []∈P:=by
 rw[List.getD_eq_getElem?_getD,List.getElem?_eq_getElem h]
 exact List.getElem_mem h
def RMp (l:List UInt8) (m:Mx) (ok:Bool):Prop:=(ok=true/\mvB m=true/\mt m=l)\/(ok=false/\m=Mx.z/\∀ m',mvB m'=true->mt m'≠l)
theorem pY {c:UInt8} (x:Int) (h:c=32\/c=59):c∉fx x:=by
 have hd:∀ m:Int,c∉dec m:=fun m=>by
  intro hm;have:=pS _ c hm;rcases h with rfl|rfl
  ·exact absurd this.1 (by decide)
  ·exact absurd this.2 (by decide)
 have hf:∀ r:Fin 16,c∉fd r.val:=by
  rcases h with rfl|rfl <;> decide
 have hn:∀ n:Int,c∉fxn n:=fun n=>by
  unfold fxn;intro hm;rcases List.mem_append.1 hm with hm|hm
  ·exact hd _ hm
  ·split at hm
   ·cases hm
   ·rcases List.mem_cons.1 hm with hm|hm
    ·rcases h with rfl|rfl <;> exact absurd hm (by decide)
    ·exact hf ⟨(n%16).toNat,by omega⟩ hm
 unfold fx fxs
 split
 ·intro hm;rcases List.mem_cons.1 hm with hm|hm
  ·rcases h with rfl|rfl <;> exact absurd hm (by decide)
  ·exact hn _ hm
 ·exact hn _
theorem wC {c:UInt8} {sep:List UInt8} (hs:c∉sep):∀ {ls:List (List UInt8)},(∀ x∈ls,c∉x)->c∉Lib.join ls sep:=by
 intro ls
 induction ls with
 | nil=>intro _;simp[Lib.join,List.intercalate]
 | cons x ls ih =>
  intro h
  by_cases hl:ls=[]
  ·subst hl;rw[Lib.join_one];exact h x (List.mem_cons_self ..)
  ·rw[hU x hl];intro hm;rcases List.mem_append.1 hm with hm|hm
   ·rcases List.mem_append.1 hm with hm|hm
    ·exact h x (List.mem_cons_self ..) hm
    ·exact hs hm
   ·exact ih (fun y hy=>h y (List.mem_cons_of_mem _ hy)) hm
theorem Ds (v:List Int) (C k:Nat):(59:UInt8)∉rt v C k:=by
 unfold rt;refine wC (by decide) fun x hx=>?_
 obtain⟨y,_,rfl⟩:=List.mem_map.1 hx
 exact pY y (.inr rfl)
theorem mU (v:List Int) (C k:Nat) (h:k*C+C<=v.length):((v.drop (k*C)).take C).length=C:=by rw[List.length_take,List.length_drop];omega
theorem xj {v:List Int} {C k:Nat} (hC:1<=C) (h:k*C+C<=v.length):Lib.split (rt v C k) [32]=((v.drop (k*C)).take C).map fx:=by
 unfold rt;refine kV (fun e=>?_) fun x hx=>?_
 ·have:=congrArg List.length e;rw[List.length_map,mU v C k h,List.length_nil] at this
  omega
 ·obtain⟨y,_,rfl⟩:=List.mem_map.1 hx
  exact pY y (.inl rfl)
theorem tw {v:List Int} {R C:Nat} (hR:1<=R):Lib.split (mtx v R C) [59,32]=(List.range R).map (rt v C):=by
 unfold mtx;refine kV (fun e=>?_) fun x hx=>?_
 ·have:=congrArg List.length e
  simp at this
  omega
 ·obtain⟨y,_,rfl⟩:=List.mem_map.1 hx
  exact Ds v C y
theorem mN {l:List UInt8} {m:Mx} (h:mvB m=true) (hl:mt m=l):∃ R C:Nat,1<=R/\R<=5/\1<=C/\C<=5/\(Lib.split l [59,32]).length=R/\∀ k,k<R->(Lib.split ((Lib.split l [59,32]).getD k []) [32]).length=C/\∀ w∈Lib.split ((Lib.split l [59,32]).getD k []) [32],∃ x,(0<=x/\x<=4095)/\fx x=w:=by
 obtain⟨R,C,hr,hc,R1,R5,C1,C5,hlen,_,hall⟩:=er h;have e:Lib.split l [59,32]=(List.range R).map (rt m.v C):=by rw[<-hl,l_ h hr hc,tw R1]
 refine⟨R,C,R1,R5,C1,C5,by rw[e];simp,fun k hk=>?_⟩
 have hk2:k*C+C<=m.v.length:=by rw[hlen];have:=Nat.mul_le_mul_right C (show k+1<=R by omega);rw[Nat.succ_mul] at this;exact this
 have e2:(Lib.split l [59,32]).getD k []=rt m.v C k:=by rw[e];simp[List.getD_eq_getElem?_getD,hk]
 rw[e2,xj C1 hk2];refine⟨by rw[List.length_map,mU _ _ _ hk2],fun w hw=>?_⟩
 obtain⟨x,hx,rfl⟩:=List.mem_map.1 hw;rw[List.all_eq_true] at hall
 exact⟨x,kJ (hall x (List.mem_of_mem_drop (List.mem_of_mem_take hx))),rfl⟩
def Rok (P:List (List UInt8)) (C k:Nat) (vs:List Int):Prop :=
 vs.length=k*C/\vs.all rv=true/\(0<k->1<=C/\C<=5/\(Lib.split (P.getD 0 []) [32]).length=C)/\∀ i,i<k->P.getD i []=rt vs C i
theorem Rok.start (P:List (List UInt8)) (C:Nat):Rok P C 0 []:=⟨by simp,rfl,fun h=>absurd h (by omega),fun i h=>absurd h (by omega)⟩
theorem RMp.no {l:List UInt8} (h:∀ m',mvB m'=true->mt m'≠l):RMp l Mx.z false:= .inr ⟨rfl,rfl,h⟩
theorem vF {l:List UInt8} (h:5<(Lib.split l [59,32]).length):RMp l Mx.z false:=RMp.no fun m hm e=>by
 obtain⟨R,C,_,_,_,_,h1,_⟩:=mN hm e
 omega
theorem vG {l:List UInt8} {k:Nat} (hk:k<(Lib.split l [59,32]).length) (h:5<(Lib.split ((Lib.split l [59,32]).getD k []) [32]).length):RMp l Mx.z false:=RMp.no fun m hm e=>by
 obtain⟨R,C,_,_,_,_,h1,h2⟩:=mN hm e;have:=(h2 k (by omega)).1
 omega
theorem vE {l:List UInt8} {k C:Nat} {vs:List Int} (hk:k<(Lib.split l [59,32]).length) (h0:0<k) (hr:Rok (Lib.split l [59,32]) C k vs) (h:(Lib.split ((Lib.split l [59,32]).getD k []) [32]).length≠C):RMp l Mx.z false:=RMp.no fun m hm e=>by
 obtain⟨R,C',_,_,_,_,h1,h2⟩:=mN hm e;have h3:=(h2 k (by omega)).1
 have h4:=(h2 0 (by omega)).1
 have h5:=(hr.2.2.1 h0).2.2
 omega
theorem Ej {l w:List UInt8} {k:Nat} {v:Int} (hk:k<(Lib.split l [59,32]).length) (hw:w∈Lib.split ((Lib.split l [59,32]).getD k []) [32]) (h:RF w v false):RMp l Mx.z false:=RMp.no fun m hm e=>by
 obtain⟨R,C,_,_,_,_,h1,h2⟩:=mN hm e;obtain⟨x,hx,hxw⟩:=(h2 k (by omega)).2 w hw
 rcases h with⟨h,_⟩|⟨_,_,h⟩
 ·cases h
 ·exact h x hx.1 hx.2 hxw
theorem RF.num {w:List UInt8} {v:Int} (h:RF w v true):(0<=v/\v<=4095)/\fx v=w:=by
 rcases h with⟨_,h1,h2⟩|⟨h,_⟩
 ·exact⟨h1,h2⟩
 ·cases h
def Rjk (W:List (List UInt8)) (j:Nat) (ys:List Int):Prop:=ys.length=j/\ys.all rv=true/\ys.map fx=W.take j
theorem Rjk.start (W:List (List UInt8)):Rjk W 0 []:=⟨rfl,rfl,rfl⟩
theorem Rjk.step {W:List (List UInt8)} {j:Nat} {ys:List Int} {x:Int} (h:Rjk W j ys) (hj:j<W.length) (hx:0<=x/\x<=4095) (e:fx x=W.getD j []):Rjk W (j+1) (ys++[x]):=by
 obtain⟨h1,h2,h3⟩:=h;refine⟨by simp[h1],by rw[List.all_append,h2,List.all_cons,aR hx];rfl,?_⟩
 rw[List.map_append,h3,List.take_succ_eq_append_getElem hj,List.map_cons,List.map_nil,e,List.getD_eq_getElem?_getD,List.getElem?_eq_getElem hj]
 rfl
theorem tj {vs ys:List Int} {C i:Nat} (h:i*C+C<=vs.length):rt (vs++ys) C i=rt vs C i:=by
 unfold rt
 congr 2
 rw[List.drop_append_of_le_length (by omega),List.take_append_of_le_length (by rw[List.length_drop];omega)]
theorem Rok.next {P:List (List UInt8)} {C k:Nat} {vs ys:List Int} (h:Rok P C k vs) (hk:k<P.length) (hy:Rjk (Lib.split (P.getD k []) [32]) C ys) (hC:(Lib.split (P.getD k []) [32]).length=C) (C5:C<=5):Rok P C (k+1) (vs++ys):=by
 obtain⟨h1,h2,h3,h4⟩:=h;obtain⟨y1,y2,y3⟩:=hy;have hW:ys.map fx=Lib.split (P.getD k []) [32]:=by rw[y3,List.take_of_length_le (by omega)]
 have hC1:1<=C:=by rw[<-hC];have:=xi (P.getD k []) [32];cases hs:Lib.split (P.getD k []) [32] with|nil=>exact absurd hs this|cons=>simp
 refine⟨by rw[List.length_append,h1,y1,Nat.succ_mul],by rw[List.all_append,h2,y2];rfl,fun _=>⟨hC1,C5,?_⟩,fun i hi=>?_⟩
 ·rcases Nat.eq_zero_or_pos k with h0|h0
  ·subst h0;exact hC
  ·exact(h3 h0).2.2
 ·by_cases hik:i<k
  ·have:i*C+C<=vs.length:=by rw[h1];have:=Nat.mul_le_mul_right C (show i+1<=k by omega);rw[Nat.succ_mul] at this;exact this
   rw[tj this]
   exact h4 i hik
  ·obtain rfl:i=k:=by omega
   have e1:((vs++ys).drop (i*C)).take C=ys:=by rw[<-h1,List.drop_left,List.take_of_length_le (by omega)]
   unfold rt;rw[e1,hW]
   exact(uc [32] (by simp) _ _ (Nat.lt_succ_self _)).symm
theorem vU {l:List UInt8} {C:Nat} {vs:List Int} (h:Rok (Lib.split l [59,32]) C (Lib.split l [59,32]).length vs) (h5:(Lib.split l [59,32]).length<=5):RMp l ⟨((Lib.split l [59,32]).length:Int),(C:Int),vs⟩ true:=by
 obtain⟨p,hp⟩:∃ p,p=(Lib.split l [59,32]).length:=⟨_,rfl⟩;rw[<-hp] at h h5 ⊢;have hp1:1<=p:=by rw[hp];have:=xi l [59,32];cases hs:Lib.split l [59,32] with|nil=>exact absurd hs this|cons=>simp
 obtain⟨h1,h2,h3,h4⟩:=h;obtain⟨C1,C5,_⟩:=h3 (by omega)
 have hv:mvB ⟨(p:Int),(C:Int),vs⟩=true:=by
  have a:side (p:Int)=true:=decide_eq_true (by omega)
  have b:side (C:Int)=true:=decide_eq_true (by omega)
  simp[mvB,a,b,h1,h2]
 refine .inl ⟨rfl,hv,?_⟩;rw[l_ hv rfl rfl];have e:Lib.split l [59,32]=(List.range p).map (rt vs C):=by
  apply List.ext_getElem
  ·simp[hp]
  ·intro i a b;have:=h4 i (by omega)
   rw[List.getD_eq_getElem?_getD,List.getElem?_eq_getElem a] at this
   simpa using this
 unfold mtx;rw[<-e]
 exact uc [59,32] (by simp) _ _ (Nat.lt_succ_self _)
theorem RMp.one {l:List UInt8} {m1 m2:Mx} {a b:Bool} (h1:RMp l m1 a) (h2:RMp l m2 b):m1=m2/\a=b:=by
 rcases h1 with⟨rfl,v1,e1⟩|⟨rfl,rfl,n1⟩
 ·rcases h2 with⟨rfl,v2,e2⟩|⟨rfl,rfl,n2⟩
  ·refine⟨?_,rfl⟩;obtain⟨R1,C1,r1,c1,a1,_,b1,_,l1,_,q1⟩:=er v1;obtain⟨R2,C2,r2,c2,a2,_,b2,_,l2,_,q2⟩:=er v2;have s1:Lib.split l [59,32]=(List.range R1).map (rt m1.v C1):=by rw[<-e1,l_ v1 r1 c1,tw a1]
   have s2:Lib.split l [59,32]=(List.range R2).map (rt m2.v C2):=by rw[<-e2,l_ v2 r2 c2,tw a2]
   have hR:R1=R2:=by have h:=congrArg List.length (s1.symm.trans s2);simpa using h
   subst hR;have hrow (k:Nat) (hk:k<R1):rt m1.v C1 k=rt m2.v C2 k:=by
    have h:=congrArg (fun x=>x[k]?) (s1.symm.trans s2)
    simpa [hk] using h
   have hm (C k:Nat) (hk:k<R1):k*C+C<=R1*C:=by have:=Nat.mul_le_mul_right C (show k+1<=R1 by omega);rw[Nat.succ_mul] at this;exact this
   have hw (k:Nat) (hk:k<R1):((m1.v.drop (k*C1)).take C1).map fx=((m2.v.drop (k*C2)).take C2).map fx:=by
    rw[<-xj b1 (by rw[l1];exact hm C1 k hk),<-xj b2 (by rw[l2];exact hm C2 k hk),hrow k hk]
   have hC:C1=C2:=by
    have h:=congrArg List.length (hw 0 (by omega))
    rw[List.length_map,List.length_map,mU _ _ _ (by rw[l1];exact hm C1 0 (by omega)),mU _ _ _ (by rw[l2];exact hm C2 0 (by omega))] at h
    exact h
   subst hC;have hv:m1.v=m2.v:=by
    apply List.ext_getElem (by rw[l1,l2])
    intro i hi1 hi2;have hk:i/C1<R1:=by rw[Nat.div_lt_iff_lt_mul (by omega)];rw[l1] at hi1;exact hi1
    have hj:i%C1<C1:=Nat.mod_lt _ (by omega)
    have hij:i/C1*C1+i%C1=i:=by rw[Nat.mul_comm];exact Nat.div_add_mod i C1
    have h:=congrArg (fun x=>x[i%C1]?) (hw (i/C1) hk)
    simp only[List.getElem?_map,List.getElem?_take_of_lt hj,List.getElem?_drop,hij,List.getElem?_eq_getElem hi1,List.getElem?_eq_getElem hi2,Option.map_some,Option.some.injEq] at h;rw[List.all_eq_true] at q1 q2
    exact vT (kJ (q1 _ (List.getElem_mem hi1))) (kJ (q2 _ (List.getElem_mem hi2))) h
   obtain⟨x,y,z⟩:=m1;obtain⟨x2,y2,z2⟩:=m2
   dsimp only at r1 c1 r2 c2 hv
   rw[r1,c1,r2,c2,hv]
  ·exact absurd e1 (n2 _ v1)
 ·rcases h2 with⟨rfl,v2,e2⟩|⟨rfl,rfl,n2⟩
  ·exact absurd e2 (n1 _ v2)
  ·exact⟨rfl,rfl⟩
theorem Dv {l b wh dg:List UInt8} {ng z:Bool} (hb:b=Lib.trimPrefix l [45]) (hn:ng=Lib.hasPrefix l [45]) (hc:Lib.cut b [46]=(wh,dg,z)) :
  pI l=if 3<wh.length\/4<dg.length then none else if (dOf wh).2=true/\(dOf (four dg)).2=true then some ((if ng=true then -((dOf wh).1*16+(dOf (four dg)).1/625) else (dOf wh).1*16+(dOf (four dg)).1/625)%4096) else none:=by
 unfold pI;rw[<-hb,hc,<-hn]
theorem xt (l p:List UInt8):(Lib.trimPrefix l p).length<=l.length:=by
 unfold Lib.trimPrefix
 split
 ·rw[List.length_drop];omega
 ·exact Nat.le_refl _
theorem vP {l:List UInt8} (h:l.length<=8):0<=(dOf l).1/\(dOf l).1<=99999999:=by
 unfold dOf
 split
 ·rename_i ha
  have:=jS (l:=l) (k:=l.length) Ql h (by rw[List.take_length];exact ha)
  rwa [List.take_length] at this
 ·exact⟨by decide,by decide⟩
theorem vw (k:Nat) (h:k<=4):ByteArray.extract ⟨#[48,48,48,48]⟩ k 4=bs (List.replicate (4-k) 48):=by
 match k,h with
 | 0,_=>rfl
 | 1,_=>rfl
 | 2,_=>rfl
 | 3,_=>rfl
 | 4,_=>rfl
def Rv (l:List UInt8) (w:World) (e:Ending) (w':World):Prop:=∃ (v:Int) (ok:Bool),e= .returned (.tuple #[.int .i64 v,.bool ok])/\RF l v ok/\Below w.heap.size w w'
theorem lY (l:List UInt8) (hl:l.length<=1048576) (w:World) (ht:Tab w) (hm:iD w):Calls prog 130 #[.string (bs l)] w (Rv l w):=by
 have HT:=Qh ht;have HM:=Qh hm;have HL:=Qh hl;clear ht hm hl
 go_enter func130,ntmps130
 go_wp2_with fail
 refine Qc (Db l [45] w) ?_;obtain⟨b,hb⟩:∃ b,b=Lib.trimPrefix l [45]:=⟨_,rfl⟩;obtain⟨ng,hn⟩:∃ b,b=Lib.hasPrefix l [45]:=⟨_,rfl⟩;rw[<-hb,<-hn];have HB:=Qh hb;have HN:=Qh hn;clear hb hn
 go_wp2_with fail
 refine(yY b [46] w (by rw[HB.out];exact Nat.le_trans (xt _ _) HL.out) HM.out).mono ?_
 rintro e w1 ⟨rfl,hb1⟩;obtain⟨⟨wh,dg,z⟩,hc⟩:∃ c,c=Lib.cut b [46]:=⟨_,rfl⟩;rw[<-hc];have HP:Hid (pI l=if 3<wh.length\/4<dg.length then none else if (dOf wh).2=true/\(dOf (four dg)).2=true then some ((if ng=true then -((dOf wh).1*16+(dOf (four dg)).1/625) else (dOf wh).1*16+(dOf (four dg)).1/625)%4096) else none):=Dv HB.out HN.out hc.symm
 have hws:(bs wh).size=wh.length:=aK _;have hds:(bs dg).size=dg.length:=aK _;have HB1:=Qh hb1;clear hc hb1
 by_cases h3:3<wh.length
 ·have h3':(3:Int)<(wh.length:Int):=by omega
  have HR:Hid (RF l 0 false):=RF.noI (by rw[HP.out,if_pos (.inl h3)])
  go_wp2_with fail
  go_wp2
  go_ret2
  exact⟨0,false,rfl,HR.out,HB1.out⟩
 have h3':(wh.length:Int)<=3:=by omega
 by_cases h4:4<dg.length
 ·have h4':(4:Int)<(dg.length:Int):=by omega
  have HR:Hid (RF l 0 false):=RF.noI (by rw[HP.out,if_pos (.inr h4)])
  go_wp2_with fail
  go_wp2
  go_ret2
  exact⟨0,false,rfl,HR.out,HB1.out⟩
 have h4':(dg.length:Int)<=4:=by omega
 have hze:=vw dg.length (by omega)
 have hap:bs dg++bs (List.replicate (4-dg.length) 48)=bs (four dg):=bN _ _;have hfl:(four dg).length=4:=by unfold four;rw[List.length_append,List.length_replicate];omega
 have hrs:(bs (List.replicate (4-dg.length) 48)).size=4-dg.length:=by rw[aK,List.length_replicate]
 obtain⟨d0,d1⟩:=vP (l:=wh) (by omega)
 obtain⟨d2,d3⟩:=vP (l:=four dg) (by omega)
 obtain⟨⟨a1,o1⟩,hd1⟩:∃ c,c=dOf wh:=⟨_,rfl⟩;obtain⟨⟨a2,o2⟩,hd2⟩:∃ c,c=dOf (four dg):=⟨_,rfl⟩;rw[<-hd1] at d0 d1 HP;rw[<-hd2] at d2 d3 HP
 dsimp only at d0 d1 d2 d3 HP
 have HD1:=Qh hd1;have HD2:=Qh hd2;have HW1:Hid (wh.length<=8):=by show _<=_;omega
 have HW2:Hid ((four dg).length<=8):=by show _<=_;omega
 have q0:0<=a2/625:=by omega
 have q1:=IntWalk.i64_in (a1*16) (by omega)
 have q2:=IntWalk.i64_in (a1*16+a2/625) (by omega)
 have q3:=IntWalk.i64_in (-(a1*16+a2/625)) (by omega)
 clear hd1 hd2 hfl
 go_wp2_with fail
 refine Qc (DJ wh HW1.out w1) ?_;rw[<-HD1.out]
 dsimp only
 go_wp2_with fail
 refine Qc (DJ (four dg) HW2.out w1) ?_;rw[<-HD2.out]
 dsimp only
 clear hze hap hrs hws hds
 cases o1
 ·have HR:Hid (RF l 0 false):=RF.noI (by rw[HP.out,if_neg (by omega),if_neg (by simp)])
  go_wp2_with fail
  go_wp2
  go_ret2
  exact⟨0,false,rfl,HR.out,HB1.out⟩
 cases o2
 ·have HR:Hid (RF l 0 false):=RF.noI (by rw[HP.out,if_neg (by omega),if_neg (by simp)])
  go_wp2_with fail
  go_wp2
  go_ret2
  exact⟨0,false,rfl,HR.out,HB1.out⟩
 cases ng
 ·have HV:Hid (pI l=some ((a1*16+a2/625)%4096)):=by show _=_;rw[HP.out,if_neg (by omega),if_pos ⟨rfl,rfl⟩];rfl
  obtain⟨v,hv⟩:∃ v,v=(a1*16+a2/625)%4096:=⟨_,rfl⟩;have hv0:0<=v/\v<=4095:=by rw[hv];omega
  have HV2:Hid (pI l=some v):=by show _=_;rw[hv];exact HV.out
  have HVV:=Qh hv;clear HV hv
  go_wp2_with fail
  refine Qc (dK (a1*16+a2/625) w1) ?_;rw[<-HVV.out]
  go_wp2_with fail
  refine(iI v hv0 w1 (HT.out.below HB1.out Ql)).mono ?_;rintro e w2 ⟨rfl,hb2⟩;have HB2:=Qh (bp hb2 HB1.out.size HB1.out);clear hb2
  by_cases hf:fx v=l
  ·have hR:=Qh (RF.yes hv0 hf);rw[hf];clear hf;go_wp2
   go_ret2
   exact⟨v,true,rfl,hR.out,HB2.out⟩
  ·have hR:=Qh (RF.Fk HV2.out hf);have hne:((bs (fx v)).toList == (bs l).toList)=false:=by rw[<-Go.beq_toListBytes];exact iE (fun e=>hf (gU e))
   clear hf;go_wp2
   go_ret2
   exact⟨0,false,rfl,hR.out,HB2.out⟩
 ·have HV:Hid (pI l=some ((-(a1*16+a2/625))%4096)):=by show _=_;rw[HP.out,if_neg (by omega),if_pos ⟨rfl,rfl⟩];rfl
  obtain⟨v,hv⟩:∃ v,v=(-(a1*16+a2/625))%4096:=⟨_,rfl⟩;have hv0:0<=v/\v<=4095:=by rw[hv];omega
  have HV2:Hid (pI l=some v):=by show _=_;rw[hv];exact HV.out
  have HVV:=Qh hv;clear HV hv
  go_wp2_with fail
  refine Qc (dK (-(a1*16+a2/625)) w1) ?_;rw[<-HVV.out]
  go_wp2_with fail
  refine(iI v hv0 w1 (HT.out.below HB1.out Ql)).mono ?_;rintro e w2 ⟨rfl,hb2⟩;have HB2:=Qh (bp hb2 HB1.out.size HB1.out);clear hb2
  by_cases hf:fx v=l
  ·have hR:=Qh (RF.yes hv0 hf);rw[hf];clear hf;go_wp2
   go_ret2
   exact⟨v,true,rfl,hR.out,HB2.out⟩
  ·have hR:=Qh (RF.Fk HV2.out hf);have hne:((bs (fx v)).toList == (bs l).toList)=false:=by rw[<-Go.beq_toListBytes];exact iE (fun e=>hf (gU e))
   clear hf;go_wp2
   go_ret2
   exact⟨0,false,rfl,hR.out,HB2.out⟩
end Go.Proofs.YtjciicheoghcdaaGreatDoor
