/- The pure law of CacheNew: its pure function answers true. -/
import Derived.Test.YtcdpmfnjajjlkaaFnsCacheNew
namespace Go.Abs.M
open Go Go.Abs
theorem w_markEntryS_nil {n : Int} : w_markEntryS [] n = some (n, []) := by
  unfold w_markEntryS fuel0
  rw [w_markEntryS_l0]
  have c : ¬ ((0 : Int) < (([] : List MEntry).length : Int)) := by simp
  rw [decide_eq_false c, cond_false]

def cap (n : Int) : Int := bif decide (1 ≤ n) && decide (n ≤ 60) then n else 1

theorem s_CacheNew_eq {n : Int} : s_CacheNew n = some (MCache.mk (cap n) []) := by
  unfold s_CacheNew s_l1In s_CacheNew_j0 cap
  cases decide (1 ≤ n) <;> cases decide (n ≤ 60) <;> rfl

theorem i_CacheNew_eq {n : Int} : i_CacheNew n = some (MCache.mk (cap n) []) := by
  have e1 : decide (1 ≤ n) = !decide (n < 1) := by by_cases c : n < 1 <;> simp [c] <;> omega
  have e2 : decide (n ≤ 60) = !decide (60 < n) := by by_cases c : 60 < n <;> simp [c] <;> omega
  unfold i_CacheNew i_CacheNew_j1 i_CacheNew_j0 cap
  rw [e1, e2]
  cases decide (n < 1) <;> cases decide (60 < n) <;> rfl

theorem law_CacheNew {n : Int} (_ : i64 n) : w_FnExactCacheNew n = some true := by
  unfold w_FnExactCacheNew
  rw [s_CacheNew_eq, bnd1_mk, i_CacheNew_eq, bnd1_mk]
  have e1 : w_eqCache (MCache.mk (cap n) []) (MCache.mk (cap n) []) = some true := by
    unfold w_eqCache w_eqEntryS
    simp [w_eqEntryS_l0]
  have e2 : w_markCache (MCache.mk (cap n) []) 1 = some (1, []) := by
    unfold w_markCache
    rw [w_markEntryS_nil, bnd2_mk, grd_pos rfl]
  have e3 : w_heldCache (MCache.mk (cap n) []) 1 = some 1 := by
    unfold w_heldCache w_heldEntryS w_heldEntryS_l0
    rfl
  rw [e1, bnd1_mk, e2, bnd2_mk, grd_pos rfl, e3, bnd1_mk]
  simp [i_CacheNew_eq, e1]
end Go.Abs.M
